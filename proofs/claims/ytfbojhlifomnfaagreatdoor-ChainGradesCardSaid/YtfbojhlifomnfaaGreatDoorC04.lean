/- Part 32 of the proofs: laws and walks that hold without conditions beyond those that each theorem names. -/
import Derived.Test.YtfbojhlifomnfaaGreatDoorC03
set_option linter.all false
set_option linter.deprecated false
namespace Go.Proofs
open Go Go.Ab
set_option linter.unusedSimpArgs false
variable {G : Nat → Option (List IC)}
attribute [simp] permL reO gones noLoop nilV nilX ZK
set_option maxHeartbeats 1000000 in
theorem rFewest_c (c : Chains) (hsm : SmallC c) (objs : List DObj) : DCall Tryz.prog G 33 [chv c] objs (fun rr objs' => rr = .tup [spotsv (fewR c), iv (fewE c)] ∧ objs' = objs) := by
 refine DCall.frame ?_ (by simp) (by simp) objs
 refine DCall_intro Tryz.func33 rfl Tryz.ntmps33 (by simp) rfl ?_
 try simp only [chv]
 have c1 := rChCheck_c (G := G) c hsm
 simp only [spotsv]
 by_cases h00 : chainsE c = 0
 ·have hOk := okC h00
  have c2 := rAll_c (G := G) c hOk hsm
  rw [h00] at c1
  simp only [spotsv] at c2
  by_cases h12 : 12 < (allSpots c).length
  ·have hE : fewE c = 4 := by rw [fewE, if_neg (by simp [h00]), if_pos h12]
   rw [fewR, hE, if_neg (by decide)]
   have h12' : (12 : Int) < ((allSpots c).length : Int) := by omega
   have hs : True := trivial
   repeat' first | (with_reducible first | refine q01 ?_ | refine q02 ?_ | refine q11 ?_ | refine q14 ?_ | refine q17 ?_) | (with_reducible refine At.fn_ret (by simp -dsimp [h12, h12', hs]; exact rfl) ?_) | (refine CallE.pure (c1) ?_; try simp -dsimp [h12, h12', hs]) | (refine CallE.pure (c2) ?_; try simp -dsimp [h12, h12', hs]) | (with_reducible refine DT_regionE [0,1,2,3,4,5,6,7,8,12,18,22,28,41] ?_; simp -dsimp [h12, h12', hs]) | (refine DT_cond rfl (fun h => ?_) (fun h => ?_) <;> (try simp only [nrm] at h) <;> (try exact Bool.noConfusion h))
   all_goals try simp -dsimp [h12, h12', hs]
   all_goals try clear hs
  ·have hEE : fewE c = if hasG c then 0 else 6 := by rw [fewE, if_neg (by simp [h00]), if_neg h12]
   have h12' : ¬ (12 : Int) < ((allSpots c).length : Int) := by omega
   have c3 := rAllC_c (G := G) c (allSpots c) 0 hsm hOk (by omega) (by decide) (by decide)
   rw [(allT_spots c 0 _ fun y hy => inS_all hy).1] at c3
   have hH : hasG c = allT c (looseR c) 0 := rfl
   rw [← hH] at c3
   simp only [spotsv] at c3
   cases hq : hasG c
   ·have hE : fewE c = 6 := by rw [hEE, hq]; rfl
    rw [fewR, hE, if_neg (by decide)]
    rw [hq] at c3
    have hs : True := trivial
    repeat' first | (with_reducible first | refine q01 ?_ | refine q02 ?_ | refine q11 ?_ | refine q14 ?_ | refine q17 ?_) | (with_reducible refine At.fn_ret (by simp -dsimp [h12, h12', hs]; exact rfl) ?_) | (refine CallE.pure (c1) ?_; try simp -dsimp [h12, h12', hs]) | (refine CallE.pure (c2) ?_; try simp -dsimp [h12, h12', hs]) | (refine CallE.pure (c3) ?_; try simp -dsimp [h12, h12', hs]) | (with_reducible refine DT_regionE [0,1,2,3,4,5,6,7,8,12,18,22,28,41] ?_; simp -dsimp [h12, h12', hs]) | (refine DT_cond rfl (fun h => ?_) (fun h => ?_) <;> (try simp only [nrm] at h) <;> (try exact Bool.noConfusion h))
    all_goals try simp -dsimp [h12, h12', hs]
    all_goals try clear hs
   ·have hE : fewE c = 0 := by rw [hEE, hq]; rfl
    have hF := fewest_ref hq
    obtain ⟨R, hR⟩ : ∃ R, R = (fewest c).getD [] := ⟨_, rfl⟩
    rw [fewR, hE, if_pos rfl, ← hR]
    rw [hq] at c3
    have hF0 : fewestTo c (some (allSpots c)) 0 = some (allSpots c) := rfl
    have hst := fewestTo_succ c (some (allSpots c))
    have hgd : ∀ x, goodF c x = allT c (inS x) 0 := fun _ => rfl
    have c4 := fun (l : List Spot) (hl : l.length < 1000000) => rAllC_c (G := G) c l 0 hsm hOk hl (by decide) (by decide)
    have c5 := fun s => rMembers_c (G := G) (allSpots c) s (by omega)
    have c6 := fun a b ha hb => rShorter_c (G := G) a b ha hb
    simp only [spotsv] at c4 c5 c6
    generalize hS : allSpots c = S at *
    have hPe : (2 : Nat) ^ S.length ≤ 2 ^ 12 := Nat.pow_le_pow_right (by omega) (by omega)
    have hmin : min S.length 64 = S.length := by omega
    have hb64 : IntKind.i64.bits = 64 := rfl
    have hlnn : ¬ ((S.length : Int) < 0) := by omega
    have hsh : IntKind.i64.wrap ((2 : Int) ^ S.length) = ((2 ^ S.length : Nat) : Int) := by
     rw [show ((2 : Int) ^ S.length) = ((2 ^ S.length : Nat) : Int) by simp]
     exact (fun (P : Nat) (h : P ≤ 2 ^ 12) => (i64w (by omega) (by omega) : IntKind.i64.wrap (P : Int) = (P : Int))) _ hPe
    generalize hP : 2 ^ S.length = P at *
    have hs : True := trivial
    repeat' first | (with_reducible first | refine q01 ?_ | refine q11 ?_ | refine q12 ?_ | refine q14 ?_) | (refine CallE.pure (c1) ?_; try simp -dsimp [h12, h12', hs]) | (refine CallE.pure (c2) ?_; try simp -dsimp [h12, h12', hs]) | (refine CallE.pure (c3) ?_; try simp -dsimp [h12, h12', hs]) | (with_reducible refine DT_regionE [0,1,2,3,4,5,6,7,8,12,18,22,28,41] ?_; simp -dsimp [h12, h12', hs]) | (refine DT_cond rfl (fun h => ?_) (fun h => ?_) <;> (try simp only [nrm] at h) <;> (try exact Bool.noConfusion h))
    all_goals try simp -dsimp [h12, h12', hs]
    all_goals try clear hs
    refine DT_loop (ι := { p : Nat × List Spot // p.1 ≤ P ∧ some p.2 = fewestTo c (some S) p.1 ∧ p.2.length ≤ 12 }) (fun p => ⟨44, [(1, .one (.ptr 0 0)), (5, .one (.im (.sl (S.map encSpot)))), (6, .one (.im (.sl (p.1.2.map encSpot)))), (7, iv (p.1.1 : Int))], [.row ((encChains c).map .im), .vec 2 [] 0 true]⟩) (fun p => P - p.1.1) ⟨(0, S), by simp [hF0]; omega⟩ (Weak.of_keep [1,5,6,7] (by simp)) ?_
    rintro ⟨⟨s, b⟩, hs1, hbest, hbl⟩
    simp only at hs1 hbest hbl
    simp only [iv]
    by_cases hlt : s < P
    ·have hw : IntKind.i64.wrap ((s : Int) + 1) = ((s + 1 : Nat) : Int) := i64w (by omega) (by omega)
     have hstep := hst s
     rw [← hbest] at hstep
     rw [stepF, hgd] at hstep
     have hmlen := memb_len S s S.length
     have d1 := c5 s
     have d2 := c6 (memb S s S.length) b (by omega) (by omega)
     have d3 := c4 (memb S s S.length) (by omega)
     generalize memb S s S.length = L at *
     simp only [betterS] at hstep
     cases hs2 : shorterS L b
     ·simp only [hs2, Bool.false_and, Bool.false_eq_true, if_false] at hstep
      rw [hs2] at d2
      have hs : True := trivial
      repeat' first | (with_reducible first | refine q01 ?_ | refine q04 ?_ | refine q11 ?_ | refine q12 ?_ | refine q14 ?_) | (refine CallE.pure (d1) ?_; try simp -dsimp [hlt, hw, hmin, hb64, hlnn, hsh, hs]) | (refine CallE.pure (d2) ?_; try simp -dsimp [hlt, hw, hmin, hb64, hlnn, hsh, hs]) | (with_reducible refine DT_regionE [0,1,2,3,4,5,6,7,8,12,18,22,28,41] ?_; simp -dsimp [hlt, hw, hmin, hb64, hlnn, hsh, hs]) | (refine DT_cond rfl (fun h => ?_) (fun h => ?_) <;> (try simp only [nrm] at h) <;> (try exact Bool.noConfusion h))
      all_goals try simp -dsimp [hlt, hw, hmin, hb64, hlnn, hsh, hs]
      all_goals try clear hs
      exact At.round ⟨(s + 1, b), by omega, hstep.symm, hbl⟩ (by simp; omega) (Weak.of_drop [1,5,6,7] 2 (by simp) (by simp) (by simp))
     ·rw [hs2] at d2
      cases hr : allT c (inS L) 0
      ·simp only [hs2, hr, Bool.and_false, Bool.false_eq_true, if_false] at hstep
       rw [hr] at d3
       have hs : True := trivial
       repeat' first | (with_reducible first | refine q01 ?_ | refine q04 ?_ | refine q11 ?_ | refine q12 ?_ | refine q14 ?_) | (refine CallE.pure (d1) ?_; try simp -dsimp [hlt, hw, hmin, hb64, hlnn, hsh, hs]) | (refine CallE.pure (d2) ?_; try simp -dsimp [hlt, hw, hmin, hb64, hlnn, hsh, hs]) | (refine CallE.pure (d3) ?_; try simp -dsimp [hlt, hw, hmin, hb64, hlnn, hsh, hs]) | (with_reducible refine DT_regionE [0,1,2,3,4,5,6,7,8,12,18,22,28,41] ?_; simp -dsimp [hlt, hw, hmin, hb64, hlnn, hsh, hs]) | (refine DT_cond rfl (fun h => ?_) (fun h => ?_) <;> (try simp only [nrm] at h) <;> (try exact Bool.noConfusion h))
       all_goals try simp -dsimp [hlt, hw, hmin, hb64, hlnn, hsh, hs]
       all_goals try clear hs
       exact At.round ⟨(s + 1, b), by omega, hstep.symm, hbl⟩ (by simp; omega) (Weak.of_drop [1,5,6,7] 2 (by simp) (by simp) (by simp))
      ·simp only [hs2, hr, Bool.and_self, if_true] at hstep
       rw [hr] at d3
       have hs : True := trivial
       repeat' first | (with_reducible first | refine q01 ?_ | refine q04 ?_ | refine q11 ?_ | refine q12 ?_ | refine q14 ?_) | (refine CallE.pure (d1) ?_; try simp -dsimp [hlt, hw, hmin, hb64, hlnn, hsh, hs]) | (refine CallE.pure (d2) ?_; try simp -dsimp [hlt, hw, hmin, hb64, hlnn, hsh, hs]) | (refine CallE.pure (d3) ?_; try simp -dsimp [hlt, hw, hmin, hb64, hlnn, hsh, hs]) | (with_reducible refine DT_regionE [0,1,2,3,4,5,6,7,8,12,18,22,28,41] ?_; simp -dsimp [hlt, hw, hmin, hb64, hlnn, hsh, hs]) | (refine DT_cond rfl (fun h => ?_) (fun h => ?_) <;> (try simp only [nrm] at h) <;> (try exact Bool.noConfusion h))
       all_goals try simp -dsimp [hlt, hw, hmin, hb64, hlnn, hsh, hs]
       all_goals try clear hs
       exact At.round ⟨(s + 1, L), by omega, hstep.symm, by show L.length ≤ 12; omega⟩ (by simp; omega) (Weak.of_drop [1,5,6,7] 2 (by simp) (by simp) (by simp))
    ·have hsP : s = P := by omega
     subst hsP
     have hRb : R = b := by rw [hR, ← hF, ← hbest]; rfl
     have hs : True := trivial
     repeat' first | (with_reducible first | refine q01 ?_ | refine q03 ?_ | refine q06 ?_ | refine q11 ?_ | refine q16 ?_ | refine q17 ?_) | (with_reducible refine At.fn_ret (by simp -dsimp [hlt, hmin, hb64, hlnn, hsh, hs]; exact rfl) ?_) | (with_reducible refine DT_regionE [0,1,2,3,4,5,6,7,8,12,18,22,28,41] ?_; simp -dsimp [hlt, hmin, hb64, hlnn, hsh, hs]) | (refine DT_cond rfl (fun h => ?_) (fun h => ?_) <;> (try simp only [nrm] at h) <;> (try exact Bool.noConfusion h))
     all_goals try simp -dsimp [hlt, hmin, hb64, hlnn, hsh, hs]
     all_goals try clear hs
     all_goals rw [hRb]
 ·have hE : fewE c = chainsE c := by rw [fewE, if_pos h00]
  rw [fewR, hE, if_neg h00]
  have hs : True := trivial
  repeat' first | (with_reducible first | refine q01 ?_ | refine q02 ?_ | refine q11 ?_ | refine q17 ?_) | (with_reducible refine At.fn_ret (by simp -dsimp [h00, hs]; exact rfl) ?_) | (refine CallE.pure (c1) ?_; try simp -dsimp [h00, hs]) | (with_reducible refine DT_regionE [0,1,2,3,4,5,6,7,8,12,18,22,28,41] ?_; simp -dsimp [h00, hs]) | (refine DT_cond rfl (fun h => ?_) (fun h => ?_) <;> (try simp only [nrm] at h) <;> (try exact Bool.noConfusion h))
  all_goals try simp -dsimp [h00, hs]
  all_goals try clear hs
theorem prS_len {c : Chains} (hsm : SmallC c) : (prS c).length < 1000000 := by
 unfold prS
 split
 ·rename_i h
  have h0 : chainsE c = 0 := by
   by_cases h0 : chainsE c = 0
   ·exact h0
   ·rw [proofE, if_pos h0] at h; exact absurd h h0
  have hp : proofOk c = true := by
   cases hp : proofOk c with
   | true => rfl
   | false => rw [proofE, if_neg (by simp [h0]), hp] at h; cases h
  obtain ⟨hL, _, _⟩ := proof_lt (okC h0) hp
  have hX : proofX c = c.loops[proofL c] := lpAt_at hL
  have := hsm.2.2.2 _ (List.getElem_mem hL)
  rw [proofS, hX]
  simp only [endsL, List.length_map, List.length_zip]
  omega
 ·simp
theorem fewR_len {c : Chains} (hsm : SmallC c) : (fewR c).length < 1000000 := by
 unfold fewR
 split
 ·rename_i h
  cases hf : fewest c with
  | none => simp
  | some b =>
    obtain ⟨_, h2, _⟩ := fewest_spec hf
    obtain ⟨s, _, rfl⟩ := List.mem_map.1 h2
    have h0 : chainsE c = 0 := by
     by_cases h0 : chainsE c = 0
     ·exact h0
     ·rw [fewE, if_pos h0] at h; exact absurd h h0
    have h1 := allSpots_len (okC h0) hsm
    have h3 := memb_len (allSpots c) s (allSpots c).length
    simp only [Option.getD_some]
    omega
 ·simp
set_option maxHeartbeats 4000000 in
theorem chainGrades_c (c : Chains) (hG : sheetG G) (hC : chainG G) (hSF : SortFOk G) (hk : KindOk c.reg) (objs : List DObj) : DCall Tryz.prog G 4 [chv c] objs (fun rr objs' => rr = bv true ∧ objs' = objs) := by
 refine DCall.frame ?_ (by simp) (by simp) objs
 refine DCall_intro Tryz.func4 rfl Tryz.ntmps4 (by simp) rfl ?_
 try simp only [chv]
 have c1 := great6_c (G := G) c
 cases hq : smallB c
 ·rw [hq] at c1
  have hs : True := trivial
  repeat' first | (with_reducible first | refine q01 ?_ | refine q02 ?_ | refine q11 ?_ | refine q17 ?_) | (with_reducible refine At.fn_ret (by simp -dsimp [hs]; exact rfl) ?_) | (refine CallE.pure (c1) ?_; try simp -dsimp [hs]) | (with_reducible refine DT_regionE [0,1,2,3,4,5,6,7,8,9,10,11,12,13,14,15,16,17,19] ?_; simp -dsimp [hs]) | (refine DT_cond rfl (fun h => ?_) (fun h => ?_) <;> (try simp only [nrm] at h) <;> (try exact Bool.noConfusion h))
  all_goals try simp -dsimp [hs]
  all_goals try clear hs
 ·have hg := smallB_iff.1 hq
  have hsm : SmallC c := ⟨⟨hg.1.1, fun x hx => ⟨(hk x hx).1, (hk x hx).2, (hg.1.2 x hx).1, (hg.1.2 x hx).2⟩⟩, hg.2⟩
  rw [hq] at c1
  have c2 := twin6_c (G := G) c hg
  have c3 := pGrade_c c hG hC hsm
  have c4 := rGrade_c (G := G) c hsm
  have c5 := pProof_c c hG hC hsm
  have c6 := rProof_c (G := G) c hsm
  have c7 := pFewest_c c hG hC hsm hSF
  have c8 := rFewest_c (G := G) c hsm
  have d1 := sameInts_c (G := G) (prS c) (prS c) (prS_len hsm)
  have d4 := sameSpots_c (G := G) (fewR c) (fewR_len hsm)
  have d5 := same6_c (G := G) c hg
  simp only [decide_true] at d1
  generalize prS c = W1 at *
  generalize fewR c = W4 at *
  simp only [isv, spotsv] at c5 c6 c7 c8 d1 d4
  have hs : True := trivial
  repeat' first | (with_reducible first | refine q01 ?_ | refine q11 ?_ | refine q14 ?_ | refine q17 ?_) | (with_reducible refine At.fn_ret (by simp -dsimp [hs]; exact rfl) ?_) | (refine CallE.pure (c1) ?_; try simp -dsimp [hs]) | (refine CallE.pure (c2) ?_; try simp -dsimp [hs]) | (refine CallE.pure (c3) ?_; try simp -dsimp [hs]) | (refine CallE.pure (c4) ?_; try simp -dsimp [hs]) | (refine CallE.pure (c5) ?_; try simp -dsimp [hs]) | (refine CallE.pure (c6) ?_; try simp -dsimp [hs]) | (refine CallE.pure (c7) ?_; try simp -dsimp [hs]) | (refine CallE.pure (c8) ?_; try simp -dsimp [hs]) | (refine CallE.pure (d1) ?_; try simp -dsimp [hs]) | (refine CallE.pure (d4) ?_; try simp -dsimp [hs]) | (refine CallE.pure (d5) ?_; try simp -dsimp [hs]) | (with_reducible refine DT_regionE [0,1,2,3,4,5,6,7,8,9,10,11,12,13,14,15,16,17,19] ?_; simp -dsimp [hs]) | (refine DT_cond rfl (fun h => ?_) (fun h => ?_) <;> (try simp only [nrm] at h) <;> (try exact Bool.noConfusion h))
  all_goals try simp -dsimp [hs]
  all_goals try clear hs
end Go.Proofs
