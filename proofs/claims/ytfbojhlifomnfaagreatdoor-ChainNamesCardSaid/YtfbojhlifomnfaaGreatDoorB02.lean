/- Part 31 of the proofs: laws and walks that hold without conditions beyond those that each theorem names. -/
import Derived.Test.YtfbojhlifomnfaaGreatDoorA13
import Derived.Test.YtfbojhlifomnfaaGreatDoorA24
import Derived.Test.YtfbojhlifomnfaaGreatDoorA27
set_option linter.all false
set_option linter.deprecated false
namespace Go.Proofs
open Go Go.Ab
set_option linter.unusedSimpArgs false
variable {G : Nat → Option (List IC)}
def SmallG (c : Chains) : Prop := Small c.reg ∧ c.lets.length ≤ 80 ∧ c.loops.length ≤ 10 ∧ ∀ x ∈ c.loops, x.links.length ≤ 12
def smallB (c : Chains) : Bool := open Classical in decide (Small c.reg) && (decide (c.lets.length ≤ 80) && decide (c.loops.length ≤ 10) && c.loops.all fun x => decide (x.links.length ≤ 12))
set_option maxHeartbeats 1000000 in
theorem great6_c (c : Chains) (objs : List DObj) : DCall Tryz.prog G 15 [chv c] objs (fun rr objs' => rr = bv (!smallB c) ∧ objs' = objs) := by
  refine DCall.frame ?_ (by simp) (by simp) objs
  refine DCall_intro Tryz.func15 rfl Tryz.ntmps15 (by simp) rfl ?_
  try simp only [chv]
  have c1 := great_c (G := G) c.reg
  have hE : smallB c = (open Classical in decide (Small c.reg) && (decide (c.lets.length ≤ 80) && decide (c.loops.length ≤ 10) && c.loops.all fun x => decide (x.links.length ≤ 12))) := rfl
  by_cases hS : Small c.reg
  · have e1 : (!(open Classical in decide (Small c.reg))) = false := by simp [hS]
    have c1' : ∀ objs, DCall Tryz.prog G 63 [regv c.reg] objs (fun d objs' => d = bv false ∧ objs' = objs) := fun objs => (c1 objs).mono fun d o ⟨h1, h2⟩ => ⟨by rw [h1]; simp [hS], h2⟩
    rw [decide_eq_true hS, Bool.true_and] at hE
    by_cases h80 : c.lets.length ≤ 80
    · have h80' : ¬ (80 : Int) < (c.lets.length : Int) := by omega
      by_cases h10 : c.loops.length ≤ 10
      · have h10' : ¬ (10 : Int) < (c.loops.length : Int) := by omega
        rw [decide_eq_true h80, decide_eq_true h10, Bool.true_and, Bool.true_and] at hE
        have hs : True := trivial
        repeat' first | (with_reducible first | refine q01 ?_ | refine q11 ?_ | refine q12 ?_ | refine q14 ?_) | (refine CallE.pure (c1') ?_; try simp -dsimp [h80', h10', hs]) | (with_reducible refine DT_regionE [0,1,2,3,18,23,33] ?_; simp -dsimp [h80', h10', hs]) | (refine DT_cond rfl (fun h => ?_) (fun h => ?_) <;> (try simp only [nrm] at h) <;> (try exact Bool.noConfusion h))
        all_goals try simp -dsimp [h80', h10', hs]
        all_goals try clear hs
        refine DT_loop (ι := { k : Nat // k ≤ c.loops.length ∧ (c.loops.all fun x => decide (x.links.length ≤ 12)) = (c.loops.drop k).all fun x => decide (x.links.length ≤ 12) }) (fun p => ⟨34, [(1, .one (.ptr 0 0)), (2, bv false), (3, iv (p.1 : Int))], [.row ((encChains c).map .im)]⟩) (fun p => c.loops.length - p.1) ⟨0, by simp⟩ (Weak.of_keep [1,2,3] (by simp)) ?_
        rintro ⟨k, hk, hall⟩
        simp only [iv, bv]
        by_cases hlt : k < c.loops.length
        · have hx : c.loops[k]? = some c.loops[k] := by simp [hlt]
          have hw : IntKind.i64.wrap ((k : Int) + 1) = ((k + 1 : Nat) : Int) := i64w (by omega) (by omega)
          have hst := all_step hlt hall
          by_cases h12 : c.loops[k].links.length ≤ 12
          · have h12' : ¬ (12 : Int) < (c.loops[k].links.length : Int) := by omega
            have hs : True := trivial
            repeat' first | (with_reducible first | refine q01 ?_ | refine q04 ?_ | refine q11 ?_ | refine q12 ?_ | refine q14 ?_) | (with_reducible refine DT_regionE [0,1,2,3,18,23,33] ?_; simp -dsimp [hx, hlt, hw, h12', hs]) | (refine DT_cond rfl (fun h => ?_) (fun h => ?_) <;> (try simp only [nrm] at h) <;> (try exact Bool.noConfusion h))
            all_goals try simp -dsimp [hx, hlt, hw, h12', hs]
            all_goals try clear hs
            exact At.round ⟨k + 1, by omega, eq_of_step hst (by simpa using h12)⟩ (by simp; omega) (Weak.of_keep [1,2,3] (by simp))
          · have h12' : (12 : Int) < (c.loops[k].links.length : Int) := by omega
            have hs : True := trivial
            repeat' first | (with_reducible first | refine q01 ?_ | refine q02 ?_ | refine q05 ?_ | refine q11 ?_ | refine q12 ?_ | refine q14 ?_ | refine q17 ?_) | (with_reducible refine At.fn_ret (by simp -dsimp [hx, hlt, hw, h12', hs]; exact rfl) ?_) | (with_reducible refine DT_regionE [0,1,2,3,18,23,33] ?_; simp -dsimp [hx, hlt, hw, h12', hs]) | (refine DT_cond rfl (fun h => ?_) (fun h => ?_) <;> (try simp only [nrm] at h) <;> (try exact Bool.noConfusion h))
            all_goals try simp -dsimp [hx, hlt, hw, h12', hs]
            all_goals try clear hs
            rw [hE, false_step hst (by simpa using h12)]; try rfl
        · have hok : (c.loops.all fun x => decide (x.links.length ≤ 12)) = true := by rw [hall, List.drop_eq_nil_of_le (by omega)]; rfl
          have hs : True := trivial
          repeat' first | (with_reducible first | refine q01 ?_ | refine q03 ?_ | refine q06 ?_ | refine q11 ?_ | refine q16 ?_ | refine q17 ?_) | (with_reducible refine At.fn_ret (by simp -dsimp [hlt, hs]; exact rfl) ?_) | (with_reducible refine DT_regionE [0,1,2,3,18,23,33] ?_; simp -dsimp [hlt, hs]) | (refine DT_cond rfl (fun h => ?_) (fun h => ?_) <;> (try simp only [nrm] at h) <;> (try exact Bool.noConfusion h))
          all_goals try simp -dsimp [hlt, hs]
          all_goals try clear hs
          rw [hE, hok]; try rfl
      · have h10' : (10 : Int) < (c.loops.length : Int) := by omega
        rw [decide_eq_false h10, Bool.and_false, Bool.false_and] at hE
        have hs : True := trivial
        repeat' first | (with_reducible first | refine q01 ?_ | refine q02 ?_ | refine q11 ?_ | refine q17 ?_) | (with_reducible refine At.fn_ret (by simp -dsimp [h80', h10', hs]; exact rfl) ?_) | (refine CallE.pure (c1') ?_; try simp -dsimp [h80', h10', hs]) | (with_reducible refine DT_regionE [0,1,2,3,18,23,33] ?_; simp -dsimp [h80', h10', hs]) | (refine DT_cond rfl (fun h => ?_) (fun h => ?_) <;> (try simp only [nrm] at h) <;> (try exact Bool.noConfusion h))
        all_goals try simp -dsimp [h80', h10', hs]
        all_goals try clear hs
        rw [hE]; try rfl
    · have h80' : (80 : Int) < (c.lets.length : Int) := by omega
      rw [decide_eq_false h80, Bool.false_and, Bool.false_and] at hE
      have hs : True := trivial
      repeat' first | (with_reducible first | refine q01 ?_ | refine q02 ?_ | refine q11 ?_ | refine q17 ?_) | (with_reducible refine At.fn_ret (by simp -dsimp [h80', hs]; exact rfl) ?_) | (refine CallE.pure (c1') ?_; try simp -dsimp [h80', hs]) | (with_reducible refine DT_regionE [0,1,2,3,18,23,33] ?_; simp -dsimp [h80', hs]) | (refine DT_cond rfl (fun h => ?_) (fun h => ?_) <;> (try simp only [nrm] at h) <;> (try exact Bool.noConfusion h))
      all_goals try simp -dsimp [h80', hs]
      all_goals try clear hs
      rw [hE]; try rfl
  · have c1' : ∀ objs, DCall Tryz.prog G 63 [regv c.reg] objs (fun d objs' => d = bv true ∧ objs' = objs) := fun objs => (c1 objs).mono fun d o ⟨h1, h2⟩ => ⟨by rw [h1]; simp [hS], h2⟩
    rw [decide_eq_false hS, Bool.false_and] at hE
    have hs : True := trivial
    repeat' first | (with_reducible first | refine q01 ?_ | refine q02 ?_ | refine q11 ?_ | refine q17 ?_) | (with_reducible refine At.fn_ret (by simp -dsimp [hs]; exact rfl) ?_) | (refine CallE.pure (c1') ?_; try simp -dsimp [hs]) | (with_reducible refine DT_regionE [0,1,2,3,18,23,33] ?_; simp -dsimp [hs]) | (refine DT_cond rfl (fun h => ?_) (fun h => ?_) <;> (try simp only [nrm] at h) <;> (try exact Bool.noConfusion h))
    all_goals try simp -dsimp [hs]
    all_goals try clear hs
    rw [hE]; try rfl
set_option maxHeartbeats 1000000 in
theorem same6_c (c : Chains) (hs : SmallG c) (objs : List DObj) : DCall Tryz.prog G 27 [chv c, chv c] objs (fun rr objs' => rr = bv true ∧ objs' = objs) := by
  refine DCall.frame ?_ (by simp) (by simp) objs
  refine DCall_intro Tryz.func27 rfl Tryz.ntmps27 (by simp) rfl ?_
  try simp only [chv, chv]
  have c1 := same_c (G := G) c.reg c.reg hs.1
  have c2 := sameInts_c (G := G) c.lets c.lets (by have := hs.2.1; omega)
  simp only [decide_true] at c1 c2
  have hl := hs.2.2.1
  have hs : True := trivial
  repeat' first | (with_reducible first | refine q01 ?_ | refine q11 ?_ | refine q12 ?_ | refine q14 ?_) | (refine CallE.pure (c1) ?_; try simp -dsimp [hs]) | (refine CallE.pure (c2) ?_; try simp -dsimp [hs]) | (with_reducible refine DT_regionE [0,1,2,3,4,5,6,7,8,38,43,69,74,87] ?_; simp -dsimp [hs]) | (refine DT_cond rfl (fun h => ?_) (fun h => ?_) <;> (try simp only [nrm] at h) <;> (try exact Bool.noConfusion h))
  all_goals try simp -dsimp [hs]
  all_goals try clear hs
  refine DT_loop (ι := { k : Nat // k ≤ c.loops.length }) (fun p => ⟨88, [(2, .one (.ptr 0 0)), (3, .one (.ptr 1 0)), (4, bv false), (5, iv (p.1 : Int))], [.row ((encChains c).map .im), .row ((encChains c).map .im)]⟩) (fun p => c.loops.length - p.1) ⟨0, by simp⟩ (Weak.of_keep [2,3,4,5] (by simp)) ?_
  rintro ⟨k, hk⟩
  simp only [iv, bv]
  by_cases hlt : k < c.loops.length
  · have hx : c.loops[k]? = some c.loops[k] := by simp [hlt]
    have hw : IntKind.i64.wrap ((k : Int) + 1) = ((k + 1 : Nat) : Int) := i64w (by omega) (by omega)
    have hln := hs.2.2.2 c.loops[k] (List.getElem_mem hlt)
    have hs : True := trivial
    repeat' first | (with_reducible first | refine q01 ?_ | refine q11 ?_ | refine q12 ?_ | refine q14 ?_) | (refine DT_regionX (id := 6) (nt := 88) 12 [5,6,7,8,9] [0,1,2,3,4,5,6,7,8,38,43,46,47,48,49,50,69,74,87] [0,1,2,3,4,5,6,7,8,38,43,69,74,87] mixed rfl (by kernel_rfl) ?_; simp -dsimp [hx, hlt, hs]) | (with_reducible refine DT_regionE [0,1,2,3,4,5,6,7,8,38,43,69,74,87] ?_; simp -dsimp [hx, hlt, hs]) | (refine DT_cond rfl (fun h => ?_) (fun h => ?_) <;> (try simp only [nrm] at h) <;> (try exact Bool.noConfusion h))
    all_goals try simp -dsimp [hx, hlt, hs]
    all_goals try clear hs
    refine DT_loop (ι := { i : Nat // i ≤ c.loops[k].links.length }) (fun p => ⟨88, [(2, .one (.ptr 0 0)), (3, .one (.ptr 1 0)), (4, bv false), (5, iv (k : Int)), (6, .one (.ptr 2 0)), (7, .one (.ptr 3 0)), (8, iv (p.1 : Int))], [.row ((encChains c).map .im), .row ((encChains c).map .im), .row ((encLoop c.loops[k]).map .im), .row ((encLoop c.loops[k]).map .im)]⟩) (fun p => c.loops[k].links.length - p.1) ⟨0, by omega⟩ (Weak.of_keep [2,3,4,5,6,7,8] (by simp)) ?_
    rintro ⟨i, hi⟩
    simp only [iv, bv]
    by_cases hli : i < c.loops[k].links.length
    · have hy : c.loops[k].links[i]? = some c.loops[k].links[i] := by simp [hli]
      have hw2 : IntKind.i64.wrap ((i : Int) + 1) = ((i + 1 : Nat) : Int) := i64w (by omega) (by omega)
      have hs : True := trivial
      repeat' first | (with_reducible first | refine q01 ?_ | refine q04 ?_ | refine q11 ?_ | refine q12 ?_ | refine q14 ?_) | (refine DT_regionM (id := 12) (nt := 88) 11 [0,1,2,3,4,5,6,7,8,38,43,69,74,87] mixed rfl (by kernel_rfl) ?_; simp -dsimp [hy, hli, hw2, hs]) | (with_reducible refine DT_regionE [0,1,2,3,4,5,6,7,8,38,43,69,74,87] ?_; simp -dsimp [hy, hli, hw2, hs]) | (refine DT_cond rfl (fun h => ?_) (fun h => ?_) <;> (try simp only [nrm] at h) <;> (try exact Bool.noConfusion h))
      all_goals try simp -dsimp [hy, hli, hw2, hs]
      all_goals try clear hs
      exact At.round ⟨i + 1, by omega⟩ (by simp; omega) (Weak.of_keep [2,3,4,5,6,7,8] (by simp))
    · have hs : True := trivial
      repeat' first | (with_reducible first | refine q01 ?_ | refine q03 ?_ | refine q04 ?_ | refine q06 ?_ | refine q11 ?_ | refine q16 ?_) | (with_reducible refine DT_regionE [0,1,2,3,4,5,6,7,8,38,43,69,74,87] ?_; simp -dsimp [hli, hw, hs]) | (refine DT_cond rfl (fun h => ?_) (fun h => ?_) <;> (try simp only [nrm] at h) <;> (try exact Bool.noConfusion h))
      all_goals try simp -dsimp [hli, hw, hs]
      all_goals try clear hs
      exact At.round ⟨k + 1, by omega⟩ (by simp; omega) (Weak.of_drop [2,3,4,5] 2 (by simp) (by simp) (by simp))
  · have hs : True := trivial
    repeat' first | (with_reducible first | refine q01 ?_ | refine q03 ?_ | refine q06 ?_ | refine q11 ?_ | refine q16 ?_ | refine q17 ?_) | (with_reducible refine At.fn_ret (by simp -dsimp [hlt, hs]; exact rfl) ?_) | (with_reducible refine DT_regionE [0,1,2,3,4,5,6,7,8,38,43,69,74,87] ?_; simp -dsimp [hlt, hs]) | (refine DT_cond rfl (fun h => ?_) (fun h => ?_) <;> (try simp only [nrm] at h) <;> (try exact Bool.noConfusion h))
    all_goals try simp -dsimp [hlt, hs]
    all_goals try clear hs
set_option maxHeartbeats 1000000 in
theorem twin6_c (c : Chains) (hs : SmallG c) (objs : List DObj) : DCall Tryz.prog G 16 [chv c] objs (fun rr objs' => rr = chv c ∧ objs' = objs) := by
  refine DCall.frame ?_ (by simp) (by simp) objs
  refine DCall_intro Tryz.func16 rfl Tryz.ntmps16 (by simp) rfl ?_
  try simp only [chv]
  have c1 := twin_c (G := G) c.reg hs.1
  have hl := hs.2.2.1
  have hl2 := hs.2.1
  have hs : True := trivial
  repeat' first | (with_reducible first | refine q01 ?_ | refine q11 ?_ | refine q12 ?_ | refine And.intro (by omega) ?_) | (refine QCall_pure (c1) ?_; try simp -dsimp [hs]) | (refine DT_regionXn (id := 1) (nt := 43) 11 [] [0,1,2,3,4,5,6,7,8,9,10,11,12,13,14,19] [0,1,2,3,4,19] mixed rfl (by kernel_rfl) ?_; simp -dsimp [hs]) | (with_reducible refine DT_regionE [0,1,2,3,4,19] ?_; simp -dsimp [hs])
  all_goals try simp -dsimp [hs]
  all_goals try clear hs
  refine DT_weak (Weak.nilCell 5 3 rfl rfl) ?_
  refine DT_loop (ι := { p : Nat × Nat × Nat × Bool // p.1 ≤ c.loops.length ∧ (p.2.2.1 = 3 ∨ p.2.2.2 = true) }) (fun p => ⟨43, [(1, .one (.ptr 0 0)), (2, .one (.ptr 4 0)), (3, .one (.ptr 5 0)), (4, iv (p.1.1 : Int))], [.row ((encChains c).map .im), .vec 0 [] 0 true, .vec 0 [] 0 true, .vec 0 [] 0 true, .row [.vec 1 0 0 0, .vec 2 0 0 0, .im (rI 0), .vec 3 0 0 0], .row [.im (.sl (c.reg.map encIssue)), .im (.sl (c.lets.map encI)), .im (rI c.of), .vec 6 p.1.2.1 0 p.1.1], .vec p.1.2.2.1 (ims ((c.loops.take p.1.1).map encLoop)) p.1.2.1 p.1.2.2.2]⟩) (fun p => c.loops.length - p.1.1) ⟨(0, 0, 0, true), by simp⟩ (Weak.of_keep [1,2,3,4] (by simp)) ?_
  rintro ⟨⟨k, g, sz, nl⟩, hk, hz⟩
  simp only at hk hz
  simp only [iv]
  have htk : (ims ((c.loops.map encLoop).take k)).take k = ims ((c.loops.map encLoop).take k) := List.take_of_length_le (by simp [ims_length]; omega)
  by_cases hlt : k < c.loops.length
  · have hx : c.loops[k]? = some c.loops[k] := by simp [hlt]
    have hw : IntKind.i64.wrap ((k : Int) + 1) = ((k + 1 : Nat) : Int) := i64w (by omega) (by omega)
    have hmin : min k c.loops.length = k := Nat.min_eq_left (by omega)
    have hln := hs.2.2.2 c.loops[k] (List.getElem_mem hlt)
    have hsn : (c.loops.map encLoop).take (k + 1) = (c.loops.map encLoop).take k ++ [encLoop c.loops[k]] := by
      rw [List.take_succ]; simp [hx]
    have hs : True := trivial
    repeat' first | (with_reducible first | refine q01 ?_ | refine q04 ?_ | refine q11 ?_ | refine q12 ?_ | refine q14 ?_ | refine And.intro (by omega) ?_) | (refine DT_regionM (id := 5) (nt := 43) 18 [0,1,2,3,4,19] mixed rfl (by kernel_rfl) ?_; simp -dsimp [hx, hw, hlt, hz, hmin, hs]) | (with_reducible refine DT_regionE [0,1,2,3,4,19] ?_; simp -dsimp [hx, hw, hlt, hz, hmin, hs]) | (refine DT_cond rfl (fun h => ?_) (fun h => ?_) <;> (try simp only [nrm] at h) <;> (try exact Bool.noConfusion h))
    all_goals try simp -dsimp [hx, hw, hlt, hz, hmin, hs]
    all_goals try clear hs
    all_goals try omega
    exact At.round ⟨(k + 1, g + 1, 3, false), by simp; omega⟩ (by simp; omega) (Weak.of_drop [1,2,3,4] 7 (by simp) (by simp) (by simp [hsn, htk, ims_append]))
  · have hkl : k = c.loops.length := by omega
    subst hkl
    have hall : (c.loops.map encLoop).take c.loops.length = c.loops.map encLoop := List.take_of_length_le (by simp)
    rw [hall] at htk
    have hs : True := trivial
    repeat' first | (with_reducible first | refine q01 ?_ | refine q03 ?_ | refine q06 ?_ | refine q11 ?_ | refine q16 ?_ | refine q17 ?_) | (with_reducible refine At.fn_ret (by simp -dsimp [hall, htk, hs]; exact rfl) ?_) | (with_reducible refine DT_regionE [0,1,2,3,4,19] ?_; simp -dsimp [hall, htk, hs]) | (refine DT_cond rfl (fun h => ?_) (fun h => ?_) <;> (try simp only [nrm] at h) <;> (try exact Bool.noConfusion h))
    all_goals try simp -dsimp [hall, htk, hs]
    all_goals try clear hs
end Go.Proofs
namespace Go.Proofs
open Go Go.Ab
set_option linter.unusedSimpArgs false
variable {G : Nat → Option (List IC)}
def KindOk (l : List Issue) : Prop := ∀ x ∈ l, 0 ≤ x.kind ∧ x.kind ≤ 255
theorem smallB_iff {c : Chains} : smallB c = true ↔ SmallG c := by
  simp only [smallB, SmallG, Bool.and_eq_true, decide_eq_true_eq, List.all_eq_true, and_assoc]
end Go.Proofs
namespace Go.Proofs
open Go Go.Ab
set_option linter.unusedSimpArgs false
variable {G : Nat → Option (List IC)}
theorem worst_len {c : Chains} (hs : SmallC c) (n : Int) (high : Bool) : (worstR c n high).length < 1000000 := by
  unfold worstR
  split
  · rename_i h
    obtain ⟨_, k, rfl, hk⟩ := loopsE_zero h
    rw [lpAt_at hk]
    have := hs.2.2.2 _ (List.getElem_mem hk)
    simp only [endsL, List.length_map, List.length_zip]
    omega
  · simp
theorem shares_len {c : Chains} (hs : SmallC c) (n : Int) : (sharesR c n).length < 1000000 := by
  unfold sharesR
  split
  · rename_i h
    obtain ⟨_, k, rfl, hk⟩ := loopsE_zero h
    rw [lpAt_at hk]
    have := hs.2.2.2 _ (List.getElem_mem hk)
    simp only [List.length_map, sizesI]
    omega
  · simp
theorem wrong_len {c : Chains} (hs : SmallC c) : (wrongR c).length < 1000000 := by
  unfold wrongR
  split
  · have := List.length_filter_le (badT c neverS 0) (List.range c.loops.length)
    have h2 := hs.2.2.1
    simp only [wrongI, wrongTo, List.length_map, List.length_range] at *
    omega
  · simp
theorem allSpots_len {c : Chains} (h : OkC c) (hs : SmallC c) : (allSpots c).length ≤ 120 := by
  have h0 := (spots_perm h).length_eq
  have h1 := List.length_filter_le (looseP (tkM c.reg c.lets)) ((spotsOf c).foldl (fun l x => sputS x l) [])
  have h2 := foldP_len (spotsOf c) []
  have h3 := spots_len c.loops hs.2.2.2
  have h4 := hs.2.2.1
  simp only [spotsOf, List.length_nil] at *
  omega
theorem spotsR_len {c : Chains} (hs : SmallC c) : (spotsR c).length < 1000000 := by
  unfold spotsR
  split
  · have := allSpots_len (okC ‹_›) hs; omega
  · simp
set_option maxHeartbeats 4000000 in
theorem chainNames_c (c : Chains) (n : Int) (high : Bool) (hG : sheetG G) (hC : chainG G) (hSF : SortFOk G) (hk : KindOk c.reg) (objs : List DObj) : DCall Tryz.prog G 3 [chv c, iv n, bv high] objs (fun rr objs' => rr = bv true ∧ objs' = objs) := by
  refine DCall.frame ?_ (by simp) (by simp) objs
  refine DCall_intro Tryz.func3 rfl Tryz.ntmps3 (by simp) rfl ?_
  try simp only [chv, iv, bv]
  have c1 := great6_c (G := G) c
  cases hq : smallB c
  · rw [hq] at c1
    have hs : True := trivial
    repeat' first | (with_reducible first | refine q01 ?_ | refine q02 ?_ | refine q11 ?_ | refine q17 ?_) | (with_reducible refine At.fn_ret (by simp -dsimp [hs]; exact rfl) ?_) | (refine CallE.pure (c1) ?_; try simp -dsimp [hs]) | (with_reducible refine DT_regionE [0,1,2,3,6,7,8,9,10,11,12,13,14,15,16,17,19,67] ?_; simp -dsimp [hs]) | (refine DT_cond rfl (fun h => ?_) (fun h => ?_) <;> (try simp only [nrm] at h) <;> (try exact Bool.noConfusion h))
    all_goals try simp -dsimp [hs]
    all_goals try clear hs
  · have hg := smallB_iff.1 hq
    have hsm : SmallC c := ⟨⟨hg.1.1, fun x hx => ⟨(hk x hx).1, (hk x hx).2, (hg.1.2 x hx).1, (hg.1.2 x hx).2⟩⟩, hg.2⟩
    rw [hq] at c1
    have c2 := twin6_c (G := G) c hg
    have c3 := pWorst_c c n high hG hC hsm
    have c4 := rWorst_c (G := G) c n high hsm
    have c5 := pShares_c c n hG hC hsm
    have c6 := rShares_c (G := G) c n hsm
    have c7 := pWrong_c c hG hC hsm
    have c8 := rWrong_c (G := G) c hsm
    have c9 := pSpots_c c hG hC hsm hSF
    have c10 := rSpots_c (G := G) c hsm
    have d1 := sameInts_c (G := G) (worstR c n high) (worstR c n high) (worst_len hsm n high)
    have d2 := sameInts_c (G := G) (sharesR c n) (sharesR c n) (shares_len hsm n)
    have d3 := sameInts_c (G := G) (wrongR c) (wrongR c) (wrong_len hsm)
    have d4 := sameSpots_c (G := G) (spotsR c) (spotsR_len hsm)
    have d5 := same6_c (G := G) c hg
    simp only [decide_true] at d1 d2 d3
    generalize worstR c n high = W1 at *
    generalize sharesR c n = W2 at *
    generalize wrongR c = W3 at *
    generalize spotsR c = W4 at *
    simp only [isv, spotsv] at c3 c4 c5 c6 c7 c8 c9 c10 d1 d2 d3 d4
    have hs : True := trivial
    repeat' first | (with_reducible first | refine q01 ?_ | refine q11 ?_ | refine q14 ?_ | refine q17 ?_) | (with_reducible refine At.fn_ret (by simp -dsimp [hs]; exact rfl) ?_) | (refine CallE.pure (c1) ?_; try simp -dsimp [hs]) | (refine CallE.pure (c2) ?_; try simp -dsimp [hs]) | (refine CallE.pure (c3) ?_; try simp -dsimp [hs]) | (refine CallE.pure (c4) ?_; try simp -dsimp [hs]) | (refine CallE.pure (c5) ?_; try simp -dsimp [hs]) | (refine CallE.pure (c6) ?_; try simp -dsimp [hs]) | (refine CallE.pure (c7) ?_; try simp -dsimp [hs]) | (refine CallE.pure (c8) ?_; try simp -dsimp [hs]) | (refine CallE.pure (c9) ?_; try simp -dsimp [hs]) | (refine CallE.pure (c10) ?_; try simp -dsimp [hs]) | (refine CallE.pure (d1) ?_; try simp -dsimp [hs]) | (refine CallE.pure (d2) ?_; try simp -dsimp [hs]) | (refine CallE.pure (d3) ?_; try simp -dsimp [hs]) | (refine CallE.pure (d4) ?_; try simp -dsimp [hs]) | (refine CallE.pure (d5) ?_; try simp -dsimp [hs]) | (with_reducible refine DT_regionE [0,1,2,3,6,7,8,9,10,11,12,13,14,15,16,17,19,67] ?_; simp -dsimp [hs]) | (refine DT_cond rfl (fun h => ?_) (fun h => ?_) <;> (try simp only [nrm] at h) <;> (try exact Bool.noConfusion h))
    all_goals try simp -dsimp [hs]
    all_goals try clear hs
end Go.Proofs
