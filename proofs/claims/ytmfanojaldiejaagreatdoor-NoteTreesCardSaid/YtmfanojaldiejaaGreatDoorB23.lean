/- Part 23 of the proofs: laws and walks that hold without conditions beyond those that each theorem names. -/
import Derived.Test.YtmfanojaldiejaaGreatDoorB13
import Derived.Test.YtmfanojaldiejaaGreatDoorB21
import Derived.Test.YtmfanojaldiejaaGreatDoorB22
set_option linter.all false
set_option linter.deprecated false
namespace Go.Proofs
open Go Go.Ab
variable {G : Nat → Option (List IC)}
set_option maxHeartbeats 2000000 in
theorem compact_c (l : List Int) (g : Nat) (hl : l.length < 1000) : DCall Tryz.prog G 57 [.one (.vec 0 g 0 l.length)] [.vec 1 (ims (l.map encI)) g false] (fun d o => ∃ S : List Int, (S.length = l.length ∧ S.take (dedupI l).length = dedupI l) ∧ d = .one (.vec 0 g 0 (dedupI l).length) ∧ o = [.vec 1 (ims (S.map encI)) g false]) := by
  refine DCall.drop ?_
  refine DCall_intro Tryz.func57 rfl Tryz.ntmps57 (by simp) rfl ?_
  by_cases h2 : l.length < 2
  · have hli : (l.length : Int) < 2 := by omega
    have hs : True := trivial
    repeat' first | (with_reducible first | refine q01 ?_ | refine q02 ?_ | refine q11 ?_ | refine q17 ?_) | (with_reducible refine At.fn_ret (by simp -dsimp [hli, hs]; exact rfl) ?_) | (with_reducible refine DT_regionE [0,2,3,4,5,8,13,25,32,44] ?_; simp -dsimp [hli, hs]) | (refine DT_cond rfl (fun h => ?_) (fun h => ?_) <;> (try simp only [nrm] at h) <;> (try exact Bool.noConfusion h))
    all_goals try simp -dsimp [hli, hs]
    all_goals try clear hs
    have hd : dedupI l = l := by
      match l, h2 with
      | [], _ => rfl
      | [a], _ => rfl
    exact ⟨l, ⟨rfl, by rw [hd, List.take_length]⟩, by rw [hd], rfl⟩
  · have hli : ¬ (l.length : Int) < 2 := by omega
    have hs : True := trivial
    repeat' first | (with_reducible first | refine q01 ?_ | refine q11 ?_ | refine q12 ?_ | refine q14 ?_) | (with_reducible refine DT_regionE [0,2,3,4,5,8,13,25,32,44] ?_; simp -dsimp [hli, hs]) | (refine DT_cond rfl (fun h => ?_) (fun h => ?_) <;> (try simp only [nrm] at h) <;> (try exact Bool.noConfusion h))
    all_goals try simp -dsimp [hli, hs]
    all_goals try clear hs
    refine DT_loop (ι := { k : Nat // 1 ≤ k ∧ k ≤ l.length ∧ dedupI (l.take k) = l.take k }) (fun p => ⟨61, [(0, .one (.vec 0 g 0 l.length)), (3, iv (p.1 : Int))], [.vec 1 (ims (l.map encI)) g false]⟩) (fun p => l.length - p.1) ⟨1, by omega, by omega, by cases l with | nil => rfl | cons a r => simp [dedupI]⟩ (Weak.of_drop [0,3] 1 (by simp) (by simp) (by simp)) ?_
    rintro ⟨k, hk1, hk, hdk⟩
    simp only [iv]
    by_cases hlt : k < l.length
    · have hw : IntKind.i64.wrap ((k : Int) + 1) = ((k + 1 : Nat) : Int) := i64w (by omega) (by omega)
      obtain ⟨j, rfl⟩ : ∃ j, k = j + 1 := ⟨k - 1, by omega⟩
      have hj : j < l.length := by omega
      have hst := dedup_step hlt
      rw [hdk] at hst
      have hwj : IntKind.i64.wrap (((j + 1 : Nat) : Int) - 1) = (j : Int) := by rw [i64w (by omega) (by omega)]; omega
      have hwj2 : IntKind.i64.wrap (j : Int) = (j : Int) := i64w (by omega) (by omega)
      have hp0 : (0 : Int) ≤ (j : Int) + 1 := by omega
      have hp1 : (j : Int) + 1 ≤ l.length := by omega
      have hp2 : (j : Int) + 1 < l.length := by omega
      by_cases he : l[j] = l[j + 1]
      · have he' : l[j + 1] = l[j] := he.symm
        rw [if_pos he] at hst
        have hs : True := trivial
        repeat' first | (with_reducible first | refine q01 ?_ | refine q11 ?_ | refine q12 ?_ | refine q14 ?_) | (refine DT_regionM (id := 6) (nt := 61) 10 [0,2,3,4,5,8,13,25,32,44] mixed rfl (by kernel_rfl) ?_; simp -dsimp [hlt, hj, hw, hwj, hwj2, hp0, hp1, hp2, he', hs]) | (with_reducible refine DT_regionE [0,2,3,4,5,8,13,25,32,44] ?_; simp -dsimp [hlt, hj, hw, hwj, hwj2, hp0, hp1, hp2, he', hs]) | (refine DT_cond rfl (fun h => ?_) (fun h => ?_) <;> (try simp only [nrm] at h) <;> (try exact Bool.noConfusion h))
        all_goals try simp -dsimp [hlt, hj, hw, hwj, hwj2, hp0, hp1, hp2, he', hs]
        all_goals try clear hs
        refine DT_loop (ι := { p : Nat × Nat × List Int // 1 ≤ p.1 ∧ j + 1 + p.1 ≤ l.length ∧ p.2.1 ≤ j + p.1 ∧ p.2.2.length = l.length ∧ p.2.2.take p.2.1 = dedupI (l.take (j + 1 + p.1)) ∧ p.2.2.drop (j + p.1) = l.drop (j + p.1) }) (fun p => ⟨61, [(0, .one (.vec 0 g 0 l.length)), (3, iv (p.1.2.1 : Int)), (4, .one (.vec 0 g (j + 1) (l.length - (j + 1)))), (5, iv (p.1.1 : Int))], [.vec 1 (ims (p.1.2.2.map encI)) g false]⟩) (fun p => l.length - p.1.1) ⟨(1, j + 1, l), by simp only; omega, by simp only; omega, by simp only; omega, rfl, hst.symm, rfl⟩ (Weak.of_keep [0,3,4,5] (by simp)) ?_
        rintro ⟨⟨q, w, S⟩, hq1, hqN, hwq, hSl, hSt, hSd⟩
        simp only at hq1 hqN hwq hSl hSt hSd
        simp only [iv]
        by_cases hlq : j + 1 + q < l.length
        · have hq' : q < l.length - (j + 1) := by omega
          have hq1' : q - 1 < l.length - (j + 1) := by omega
          have hqw : IntKind.i64.wrap ((q : Int) + 1) = ((q + 1 : Nat) : Int) := i64w (by omega) (by omega)
          have hww : IntKind.i64.wrap ((w : Int) + 1) = ((w + 1 : Nat) : Int) := i64w (by omega) (by omega)
          have hqm : IntKind.i64.wrap ((q : Int) - 1) = ((q - 1 : Nat) : Int) := by rw [i64w (by omega) (by omega)]; omega
          have hs1 : j + 1 + q < S.length := by omega
          have hs0 : j + 1 + (q - 1) < S.length := by omega
          have hwl : w < l.length := by omega
          have hds : dedupI (l.take (j + 1 + (q + 1))) = if l[j + q] = l[j + 1 + q] then dedupI (l.take (j + 1 + q)) else dedupI (l.take (j + 1 + q)) ++ [l[j + 1 + q]] := by
            have := dedup_step (l := l) (k := j + q) (by omega)
            simp only [show j + q + 1 = j + 1 + q by omega, show j + q + 2 = j + 1 + (q + 1) by omega] at this
            exact this
          rw [← hSt] at hds
          have e1 : S[j + 1 + q] = l[j + 1 + q] := by
            have := congrArg (fun L : List Int => L[1]?) hSd
            simp only [List.getElem?_drop] at this
            rw [show j + q + 1 = j + 1 + q by omega, List.getElem?_eq_getElem hs1, List.getElem?_eq_getElem hlq] at this
            exact Option.some.inj this
          have e0 : S[j + 1 + (q - 1)] = l[j + q] := by
            have := congrArg (fun L : List Int => L[0]?) hSd
            simp only [List.getElem?_drop, Nat.add_zero] at this
            rw [List.getElem?_eq_getElem (show j + q < S.length by omega), List.getElem?_eq_getElem (show j + q < l.length by omega)] at this
            have e := Option.some.inj this
            rw [← e]; congr 1; omega
          have hdr : S.drop (j + (q + 1)) = l.drop (j + (q + 1)) := by
            have := congrArg (List.drop 1) hSd
            rw [List.drop_drop, List.drop_drop] at this
            exact this
          have hset := fun v : Int => set_take (v := v) (show w < S.length by omega)
          have hdset : ∀ v : Int, (S.set w v).drop (j + (q + 1)) = l.drop (j + (q + 1)) := fun v => by
            rw [List.drop_set_of_lt (by omega)]; exact hdr
          generalize l[j + q] = u at *
          generalize l[j + 1 + q] = v at *
          have e0' : S[j + 1 + (q - 1)]? = some u := by rw [List.getElem?_eq_getElem hs0, e0]
          have e1' : S[j + 1 + q]? = some v := by rw [List.getElem?_eq_getElem hs1, e1]
          by_cases huv : u = v
          · have hvu : v = u := huv.symm
            rw [if_pos huv] at hds
            have hs : True := trivial
            repeat' first | (with_reducible first | refine q01 ?_ | refine q04 ?_ | refine q11 ?_ | refine q12 ?_ | refine q14 ?_) | (refine DT_regionM (id := 11) (nt := 61) 10 [0,2,3,4,5,8,13,25,32,44] mixed rfl (by kernel_rfl) ?_; simp -dsimp [hq', hq1', hSl, hlq, hqw, hww, hqm, hs1, hs0, hwl, e1, e0, e0', e1', hvu, hs]) | (with_reducible refine DT_regionE [0,2,3,4,5,8,13,25,32,44] ?_; simp -dsimp [hq', hq1', hSl, hlq, hqw, hww, hqm, hs1, hs0, hwl, e1, e0, e0', e1', hvu, hs]) | (refine DT_cond rfl (fun h => ?_) (fun h => ?_) <;> (try simp only [nrm] at h) <;> (try exact Bool.noConfusion h))
            all_goals try simp -dsimp [hq', hq1', hSl, hlq, hqw, hww, hqm, hs1, hs0, hwl, e1, e0, e0', e1', hvu, hs]
            all_goals try clear hs
            all_goals exact At.round ⟨(q + 1, w, S), by simp only; omega, by simp only; omega, by simp only; omega, hSl, hds.symm, hdr⟩ (by simp only; omega) (Weak.of_keep [0,3,4,5] (by simp))
          · have hvu : ¬ v = u := fun h => huv h.symm
            rw [if_neg huv, ← hset v] at hds
            have hs : True := trivial
            repeat' first | (with_reducible first | refine q01 ?_ | refine q04 ?_ | refine q11 ?_ | refine q12 ?_ | refine q14 ?_) | (refine DT_regionM (id := 11) (nt := 61) 10 [0,2,3,4,5,8,13,25,32,44] mixed rfl (by kernel_rfl) ?_; simp -dsimp [hq', hq1', hSl, hlq, hqw, hww, hqm, hs1, hs0, hwl, e1, e0, e0', e1', hvu, hs]) | (with_reducible refine DT_regionE [0,2,3,4,5,8,13,25,32,44] ?_; simp -dsimp [hq', hq1', hSl, hlq, hqw, hww, hqm, hs1, hs0, hwl, e1, e0, e0', e1', hvu, hs]) | (refine DT_cond rfl (fun h => ?_) (fun h => ?_) <;> (try simp only [nrm] at h) <;> (try exact Bool.noConfusion h))
            all_goals try simp -dsimp [hq', hq1', hSl, hlq, hqw, hww, hqm, hs1, hs0, hwl, e1, e0, e0', e1', hvu, hs]
            all_goals try clear hs
            all_goals exact At.round ⟨(q + 1, w + 1, S.set w v), by simp only; omega, by simp only; omega, by simp only; omega, by simpa using hSl, hds.symm, hdset v⟩ (by simp only; omega) (Weak.of_keep [0,3,4,5] (by simp))
        · have hq' : ¬ q < l.length - (j + 1) := by omega
          have hw0 : w ≤ l.length := by omega
          have hs : True := trivial
          repeat' first | (with_reducible first | refine q01 ?_ | refine q02 ?_ | refine q03 ?_ | refine q05 ?_ | refine q06 ?_ | refine q11 ?_ | refine q16 ?_ | refine q17 ?_) | (with_reducible refine At.fn_ret (by simp -dsimp [hq', hw0, hSl, hs]; exact rfl) ?_) | (with_reducible refine DT_regionE [0,2,3,4,5,8,13,25,32,44] ?_; simp -dsimp [hq', hw0, hSl, hs]) | (refine DT_cond rfl (fun h => ?_) (fun h => ?_) <;> (try simp only [nrm] at h) <;> (try exact Bool.noConfusion h))
          all_goals try simp -dsimp [hq', hw0, hSl, hs]
          all_goals try clear hs
          have hN : j + 1 + q = l.length := by omega
          rw [hN, List.take_length] at hSt
          have hwd : w = (dedupI l).length := by rw [← hSt]; simp; omega
          exact ⟨clrI S w (l.length - w), ⟨by rw [clrI_len (by omega)]; exact hSl, by rw [← hwd, ← hSt]; exact List.take_left' (by simp; omega)⟩, by rw [hwd], rfl⟩
      · have he' : ¬ l[j + 1] = l[j] := fun h => he h.symm
        rw [if_neg he] at hst
        have hs : True := trivial
        repeat' first | (with_reducible first | refine q01 ?_ | refine q04 ?_ | refine q11 ?_ | refine q12 ?_ | refine q14 ?_) | (refine DT_regionM (id := 6) (nt := 61) 10 [0,2,3,4,5,8,13,25,32,44] mixed rfl (by kernel_rfl) ?_; simp -dsimp [hlt, hj, hw, hwj, hwj2, hp0, hp1, hp2, he', hs]) | (with_reducible refine DT_regionE [0,2,3,4,5,8,13,25,32,44] ?_; simp -dsimp [hlt, hj, hw, hwj, hwj2, hp0, hp1, hp2, he', hs]) | (refine DT_cond rfl (fun h => ?_) (fun h => ?_) <;> (try simp only [nrm] at h) <;> (try exact Bool.noConfusion h))
        all_goals try simp -dsimp [hlt, hj, hw, hwj, hwj2, hp0, hp1, hp2, he', hs]
        all_goals try clear hs
        exact At.round ⟨j + 2, by omega, by omega, by rw [hst, show j + 2 = j + 1 + 1 from rfl, List.take_succ_eq_append_getElem hlt]⟩ (by simp only; omega) (Weak.of_keep [0,3] (by simp; exact hw))
    · obtain rfl : k = l.length := by omega
      rw [List.take_length] at hdk
      have hs : True := trivial
      repeat' first | (with_reducible first | refine q01 ?_ | refine q03 ?_ | refine q06 ?_ | refine q11 ?_ | refine q16 ?_ | refine q17 ?_) | (with_reducible refine At.fn_ret (by simp -dsimp [hlt, hs]; exact rfl) ?_) | (with_reducible refine DT_regionE [0,2,3,4,5,8,13,25,32,44] ?_; simp -dsimp [hlt, hs]) | (refine DT_cond rfl (fun h => ?_) (fun h => ?_) <;> (try simp only [nrm] at h) <;> (try exact Bool.noConfusion h))
      all_goals try simp -dsimp [hlt, hs]
      all_goals try clear hs
      exact ⟨l, ⟨rfl, by rw [hdk, List.take_length]⟩, by rw [hdk], rfl⟩
end Go.Proofs
namespace Go.Proofs
open Go Go.Ab
variable {G : Nat → Option (List IC)}
attribute [simp] permL reO gones noLoop nilV nilX ZK
theorem truthsF_c (f : IC) (objs : List DObj) : DCall Tryz.prog G 53 [.one (.im f)] objs (fun rr objs' => rr = .one (.im (.fn (.func 86) [.ip [f]])) ∧ objs' = objs) := by
  refine DCall.frame ?_ (by simp) (by simp) objs
  refine DCall_intro Tryz.func53 rfl Tryz.ntmps53 (by simp) rfl ?_
  try simp only [iv]
  have hs : True := trivial
  repeat' first | (with_reducible first | refine q01 ?_ | refine q11 ?_ | refine q17 ?_) | (with_reducible refine At.fn_ret (by simp -dsimp [hs]; exact rfl) ?_) | (with_reducible refine DT_regionE [0,1,2] ?_; simp -dsimp [hs])
  all_goals try simp -dsimp [hs]
  all_goals try clear hs
theorem takeIms (X : List (List IC)) (m : Nat) : (ims X).take m = ims (X.take m) := by simp [ims, List.map_take]
def posTo (n : Notes) (d m : Int) (O : List Int) (k : Nat) : List Int := (trTo O k).map fun t => letF n t d m
theorem posTo_len (n : Notes) (d m : Int) (O : List Int) (k : Nat) : (posTo n d m O k).length = k := by simp [posTo, trTo_len]
theorem posTo_succ (n : Notes) (d m : Int) (O : List Int) (k : Nat) : posTo n d m O (k + 1) = posTo n d m O k ++ [letF n (selN O k O.length) d m] := by simp [posTo, trTo_succ]
theorem posTo_zero (n : Notes) (d m : Int) (O : List Int) : posTo n d m O 0 = [] := rfl
set_option maxHeartbeats 4000000 in
theorem nPossible_c (n : Notes) (d m : Int) (hG : sheetG G) (hN : noteG G) (hS : SortOk G) (hs : NSm n) (objs : List DObj) : DCall Tryz.prog G 16 [notesv n, iv d, iv m] objs (fun rr objs' => rr = .tup [isv (if drawnE n [] m d = 0 then dedupI (isort ((truthsL (isort (openL n.notes))).map fun t => letF n t d m)) else []), iv (drawnE n [] m d)] ∧ objs' = objs) := by
  refine DCall.frame ?_ (by simp) (by simp) objs
  refine DCall_intro Tryz.func16 rfl Tryz.ntmps16 (by simp) rfl ?_
  try simp only [notesv, iv, iv]
  have c1 := drawn_c n [] m d hG hN hS hs (by simp)
  by_cases h0 : drawnE n [] m d = 0
  · rw [h0, show drawnR n [] m d = .one (.im (fileI n)) by unfold drawnR; rw [if_pos h0]] at c1
    have ha0 : askedE n [] m = 0 := by
      unfold drawnE at h0
      split at h0
      · contradiction
      · simpa using ‹¬ askedE n [] m ≠ 0›
    have hnk := notes_ok (asked_ok ha0).1
    have hn12 := hnk.2.1
    have hO5 : (isort (openL n.notes)).length ≤ 5 := by rw [isortL]; exact hnk.2.2.2
    have c2 := truthsF_c (G := G) (fileI n)
    rw [if_pos h0]
    simp only [fileI, isv, iv, List.map_nil] at c1 c2
    have hs : True := trivial
    repeat' first | (with_reducible first | refine q01 ?_ | refine q11 ?_ | refine q12 ?_ | refine q14 ?_) | (refine CallE.pure (c1) ?_; try simp -dsimp [hs]) | (refine CallE.pure (c2) ?_; try simp -dsimp [hs]) | (with_reducible refine DT_regionE [0,1,2,3,4,5,6,7,8,9,10,12,21,24,26] ?_; simp -dsimp [hs]) | (refine DT_cond rfl (fun h => ?_) (fun h => ?_) <;> (try simp only [nrm] at h) <;> (try exact Bool.noConfusion h))
    all_goals try simp -dsimp [hs]
    all_goals try clear hs
    refine DT_rangeFunc (f := 86) (by simp; exact rfl) (by rfl) Tryz.call86 ?_
    generalize hR : LoopD.mk _ _ _ _ _ _ _ = R
    have hR1 : R.st = .ready := by rw [← hR]
    have hR2 : R.pend = none := by rw [← hR]
    have hR3 : R.at .ready none = R := by rw [← hR]; rfl
    have hR4 := (congrArg LoopD.nt hR).symm
    have hR5 := (congrArg LoopD.tm hR).symm
    have hR6 := (congrArg LoopD.ps hR).symm
    have hR7 := (congrArg LoopD.asg hR).symm
    have hR8 := (congrArg LoopD.body hR).symm
    dsimp only at hR4 hR5 hR6 hR7 hR8
    clear hR
    refine DCall_intro Tryz.func86 rfl Tryz.ntmps86 (by simp) rfl ?_
    have hR9 : ∀ objs : List DObj, (R.tm.map fun x => (x.1, fzV 8 objs x.2)) = R.tm := by intro objs; rw [hR5]; simp
    have hE : ((truthsL (isort (openL n.notes))).map fun t => letF n t d m) = posTo n d m (isort (openL n.notes)) (2 ^ (isort (openL n.notes)).length) := rfl
    rw [hE]
    clear hE
    generalize hO : isort (openL n.notes) = O at *
    have hPe : (2 : Nat) ^ O.length ≤ 2 ^ 5 := Nat.pow_le_pow_right (by omega) hO5
    have hP1 : 1 ≤ (2 : Nat) ^ O.length := Nat.one_le_two_pow
    have hmin : min O.length 64 = O.length := by omega
    have hb64 : IntKind.i64.bits = 64 := rfl
    have hlnn : ¬ ((O.length : Int) < 0) := by omega
    have hsh : IntKind.i64.wrap ((2 : Int) ^ O.length) = ((2 ^ O.length : Nat) : Int) := by
      rw [show ((2 : Int) ^ O.length) = ((2 ^ O.length : Nat) : Int) by simp]
      exact (fun (P : Nat) (h : P ≤ 2 ^ 5) => (i64w (by omega) (by omega) : IntKind.i64.wrap (P : Int) = (P : Int))) _ hPe
    generalize hP : 2 ^ O.length = P at *
    have hs : True := trivial
    repeat' first | (with_reducible first | refine q01 ?_ | refine q11 ?_ | refine q12 ?_) | (with_reducible refine DT_regionE [0,1,2,3,4,5,6,7,8,9,10,11,12,21,22,24,26] ?_; simp -dsimp [hR1, hR2, hR3, hmin, hb64, hlnn, hsh, hs])
    all_goals try simp -dsimp [hR1, hR2, hR3, hmin, hb64, hlnn, hsh, hs]
    all_goals try clear hs
    refine DT_loop (ι := { p : Nat × Nat × Nat × Bool // p.1 ≤ P ∧ ((p.2.2.1 = 1 ∧ p.2.2.2 = false) ∨ (p.2.2.1 = 0 ∧ p.2.2.2 = true ∧ p.1 = 0)) }) (fun p => ⟨24, [(0, .one (.yld 7)), (1, .one (.im (.ip [.ip [.sl (n.reg.map encIssue), .sl (n.notes.map encNote), .sl ((nums n.reg).map encI), .sl (O.map encI)]]))), (9, iv (P : Int)), (10, iv (p.1.1 : Int))], [.row ((encNotes n).map .im), .row [.im (rI d)], .row [.im (rI m)], .vec 1 [] 0 true, .row [.im (.ip [.sl (n.reg.map encIssue), .sl (n.notes.map encNote), .sl ((nums n.reg).map encI), .sl (O.map encI)])], .vec p.1.2.2.1 (ims ((posTo n d m O p.1.1).map encI)) p.1.2.1 p.1.2.2.2, .row [.vec 5 p.1.2.1 0 p.1.1], .loop R]⟩) (fun p => P - p.1.1) ⟨(0, 0, 0, true), by simp⟩ (Weak.of_keep [0,1,9,10] (by simp [posTo_zero])) ?_
    rintro ⟨⟨k, g, sz, nl⟩, hk, hz⟩
    simp only at hk hz
    simp only [iv]
    have hkl := posTo_len n d m O k
    by_cases hlt : k < P
    · have hw : IntKind.i64.wrap ((k : Int) + 1) = ((k + 1 : Nat) : Int) := i64w (by omega) (by omega)
      have hst := posTo_succ n d m O k
      have c3 := some_c (G := G) O k (by omega)
      have htl := selN_len O k O.length
      have hbl := byF_let n (selN O k O.length) m d
      generalize selN O k O.length = t at *
      have c4 := force_c (G := G) n t [] m
      have c5 := by_c (G := G) n t [] m d (by omega) (by omega) (by simp) [] (ConsM.nil n t [] m)
      simp only [frcObjs, frcCaps, fileI, iv, isv, bv, rI, List.map_cons, List.map_nil, encMB, hO] at c3 c4 c5
      generalize posTo n d m O k = L at *
      rcases hz with ⟨rfl, rfl⟩ | ⟨rfl, rfl, rfl⟩
      · subst hkl
        have hs : True := trivial
        repeat' first | (with_reducible first | refine q01 ?_ | refine q04 ?_ | refine q11 ?_ | refine q12 ?_ | refine q14 ?_ | refine And.intro (by omega) ?_) | (with_reducible refine At.yield_end ?_; simp -dsimp [hR1, hR2, hR3, hlt, hw, hbl, hs]) | (refine At_busy ?_ ?_ <;> simp -dsimp [hR1, hR2, hR3, hlt, hw, hbl, hs]) | (refine YieldE_go ?_; simp -dsimp [YieldR, hR4, hR5, hR6, hR7, hR8, hR1, hR2, hR3, hlt, hw, hbl, hs]) | (refine CallE.pure (c3) ?_; try simp -dsimp [hR1, hR2, hR3, hlt, hw, hbl, hs]) | (refine CallE.embed [] (c4) ?_ ?_ ?_ ?_ ?_ ?_; (focus (simp [emb]; done)); (focus (simp; done)); (focus (simp; done)); (focus (simp; done)); (focus (refine emb_all ?_; simp [emb, embAll]; done)); try simp -dsimp [mergeO, emb, hR1, hR2, hR3, hlt, hw, hbl, hs]) | (refine CallE.embed_ex [8,9,10,11,12,13,14] (c5) ?_ ?_ ?_ ?_ ?_ ?_; (focus (simp [emb]; done)); (focus (simp; done)); (focus (simp; done)); (focus (simp; done)); (focus (refine emb_all ?_; simp [emb, embAll]; done)); intro mm hmm; try simp -dsimp [mergeO, emb, hR1, hR2, hR3, hlt, hw, hbl, hs]) | (refine DT_regionZ (id := 7) (nt := 42) [0,1,2,3,4,6,5,7,8,9,10,11] 6 [([0,1,5], [0,1,2,3,4,5,6,7,8,9,10,12,21,24,26,29,30,31]), ([0], [0,1,2,3,4,5,6,7,8,9,10,12,21,24,26,28,32,33]), ([0], [0,1,2,3,4,5,6,7,8,9,10,12,21,24,26,34]), ([0], [0,1,2,3,4,5,6,7,8,9,10,12,21,24,26,35])] [0,1,2,3,4,5,6,7,8,9,10,12,21,24,26] mixed rfl (by kernel_rfl) (by kernel_rfl) ?_; simp -dsimp [hR1, hR2, hR3, hlt, hw, hbl, hs]) | (with_reducible refine DT_regionE [0,1,2,3,4,5,6,7,8,9,10,11,12,21,22,24,26] ?_; simp -dsimp [hR1, hR2, hR3, hlt, hw, hbl, hs]) | (refine DT_cond rfl (fun h => ?_) (fun h => ?_) <;> (try simp only [nrm] at h) <;> (try exact Bool.noConfusion h))
        all_goals try simp -dsimp [hR1, hR2, hR3, hlt, hw, hbl, hs]
        all_goals try clear hs
        all_goals exact At.round ⟨(L.length + 1, g + 1, 1, false), by omega, .inl ⟨rfl, rfl⟩⟩ (by simp only; omega) (Weak.of_drop [0,1,9,10] 8 (by simp) (by simp) (by simp [hst, hR9]))
      · obtain rfl := List.eq_nil_of_length_eq_zero hkl
        have hw1 : IntKind.i64.wrap 1 = 1 := i64w (by omega) (by omega)
        have hs : True := trivial
        repeat' first | (with_reducible first | refine q01 ?_ | refine q04 ?_ | refine q11 ?_ | refine q12 ?_ | refine q14 ?_) | (with_reducible refine At.yield_end ?_; simp -dsimp [hR1, hR2, hR3, hlt, hw, hbl, hs]) | (refine At_busy ?_ ?_ <;> simp -dsimp [hR1, hR2, hR3, hlt, hw, hbl, hs]) | (refine YieldE_go ?_; simp -dsimp [YieldR, hR4, hR5, hR6, hR7, hR8, hR1, hR2, hR3, hlt, hw, hbl, hs]) | (refine CallE.pure (c3) ?_; try simp -dsimp [hR1, hR2, hR3, hlt, hw, hbl, hs]) | (refine CallE.embed [] (c4) ?_ ?_ ?_ ?_ ?_ ?_; (focus (simp [emb]; done)); (focus (simp; done)); (focus (simp; done)); (focus (simp; done)); (focus (refine emb_all ?_; simp [emb, embAll]; done)); try simp -dsimp [mergeO, emb, hR1, hR2, hR3, hlt, hw, hbl, hs]) | (refine CallE.embed_ex [8,9,10,11,12,13,14] (c5) ?_ ?_ ?_ ?_ ?_ ?_; (focus (simp [emb]; done)); (focus (simp; done)); (focus (simp; done)); (focus (simp; done)); (focus (refine emb_all ?_; simp [emb, embAll]; done)); intro mm hmm; try simp -dsimp [mergeO, emb, hR1, hR2, hR3, hlt, hw, hbl, hs]) | (refine DT_regionZ (id := 7) (nt := 42) [0,1,2,3,4,6,5,7,8,9,10,11] 6 [([0,1,5], [0,1,2,3,4,5,6,7,8,9,10,12,21,24,26,29,30,31]), ([0], [0,1,2,3,4,5,6,7,8,9,10,12,21,24,26,28,32,33]), ([0], [0,1,2,3,4,5,6,7,8,9,10,12,21,24,26,34]), ([0], [0,1,2,3,4,5,6,7,8,9,10,12,21,24,26,35])] [0,1,2,3,4,5,6,7,8,9,10,12,21,24,26] mixed rfl (by kernel_rfl) (by kernel_rfl) ?_; simp -dsimp [hR1, hR2, hR3, hlt, hw, hbl, hs]) | (with_reducible refine DT_regionE [0,1,2,3,4,5,6,7,8,9,10,11,12,21,22,24,26] ?_; simp -dsimp [hR1, hR2, hR3, hlt, hw, hbl, hs]) | (refine DT_cond rfl (fun h => ?_) (fun h => ?_) <;> (try simp only [nrm] at h) <;> (try exact Bool.noConfusion h))
        all_goals try simp -dsimp [hR1, hR2, hR3, hlt, hw, hbl, hs]
        all_goals try clear hs
        all_goals exact At.round ⟨(1, g + 1, 1, false), by omega, .inl ⟨rfl, rfl⟩⟩ (by simp only; omega) (Weak.of_drop [0,1,9,10] 8 (by simp) (by simp) (by simp [hst, hR9, hw1]))
    · obtain rfl : k = P := by omega
      obtain ⟨rfl, rfl⟩ := hz.resolve_right (by omega)
      generalize posTo n d m O k = L at *
      have c3 := hS L g 1 false (.inl rfl) (by omega)
      have hil := isort_len L
      have c4 := compact_c (G := G) (isort L) g (by omega)
      have hdl := dedupI_len (isort L)
      rw [hil] at c4
      subst hkl
      have hs : True := trivial
      repeat' first | (with_reducible first | refine q01 ?_ | refine q03 ?_ | refine q04 ?_ | refine q06 ?_ | refine q11 ?_ | refine q16 ?_ | refine q17 ?_) | (with_reducible refine At.fn_ret (by simp -dsimp [hR1, hR2, hR3, hlt, hs]; exact rfl) ?_) | (with_reducible refine At.fn_end (by simp -dsimp [hR1, hR2, hR3, hlt, hs]; exact rfl) ?_) | (with_reducible show LoopR _ _ _ _ _ _ _ _; simp -dsimp [LoopR, hR1, hR2, hR3, hlt, hs]) | (refine CallE.embed [5] (c3) ?_ ?_ ?_ ?_ ?_ ?_; (focus (simp [emb]; done)); (focus (simp; done)); (focus (simp; done)); (focus (simp; done)); (focus (refine emb_all ?_; simp [emb, embAll]; done)); try simp -dsimp [mergeO, emb, hR1, hR2, hR3, hlt, hs]) | (refine CallE.embed_ex [5] (c4) ?_ ?_ ?_ ?_ ?_ ?_; (focus (simp [emb]; done)); (focus (simp; done)); (focus (simp; done)); (focus (simp; done)); (focus (refine emb_all ?_; simp [emb, embAll]; done)); intro mm hmm; try simp -dsimp [mergeO, emb, hR1, hR2, hR3, hlt, hs]) | (with_reducible refine DT_regionE [0,1,2,3,4,5,6,7,8,9,10,11,12,21,22,24,26] ?_; simp -dsimp [hR1, hR2, hR3, hlt, hs]) | (refine DT_cond rfl (fun h => ?_) (fun h => ?_) <;> (try simp only [nrm] at h) <;> (try exact Bool.noConfusion h))
      all_goals try simp -dsimp [hR1, hR2, hR3, hlt, hs]
      all_goals try clear hs
      obtain ⟨ha1, ha2⟩ := hmm
      have hml : (dedupI (isort L)).length ≤ mm.length := by omega
      have htk : (ims (mm.map encI)).take (dedupI (isort L)).length = ims ((dedupI (isort L)).map encI) := by rw [takeIms, ← List.map_take, ha2]
      simp [hml, htk, h0]
  · rw [show drawnR n [] m d = .one (.im (.raw (.pointer none))) by unfold drawnR; rw [if_neg h0]] at c1
    rw [if_neg h0]
    simp only [isv, iv, List.map_nil] at c1
    have hs : True := trivial
    repeat' first | (with_reducible first | refine q01 ?_ | refine q02 ?_ | refine q11 ?_ | refine q17 ?_) | (with_reducible refine At.fn_ret (by simp -dsimp [h0, hs]; exact rfl) ?_) | (refine CallE.pure (c1) ?_; try simp -dsimp [h0, hs]) | (with_reducible refine DT_regionE [0,1,2,3,4,5,6,7,8,9,10,12,21,24,26] ?_; simp -dsimp [h0, hs]) | (refine DT_cond rfl (fun h => ?_) (fun h => ?_) <;> (try simp only [nrm] at h) <;> (try exact Bool.noConfusion h))
    all_goals try simp -dsimp [h0, hs]
    all_goals try clear hs
    all_goals simp [h0]
end Go.Proofs
namespace Go.Proofs
open Go Go.Ab
theorem check_rng {l : List Issue} (h : checkR l = 0) {x : Issue} (hx : x ∈ l) : 1 ≤ x.drawing ∧ 1 ≤ x.letter ∧ x.letter ≤ 8 := by
  have h1 := (scan_all (listed_scan (check_listed h))).2.2.2.1 x hx
  simp only [issueOk, ck1, Bool.and_eq_true, decide_eq_true_eq] at h1
  omega
theorem numsTo_from (l : List Issue) : ∀ (k : Nat) (d : Int), d ∈ numsTo l k → ∃ x ∈ l, x.drawing = d
  | 0, d, h => by simp [numsTo] at h
  | k + 1, d, h => by
    simp only [numsTo] at h
    rcases List.mem_append.1 h with h | h
    · exact numsTo_from l k d h
    · split at h
      · rename_i x hx
        split at h
        · exact ⟨x, List.mem_of_getElem? hx, (List.mem_singleton.1 h).symm⟩
        · cases h
      · cases h
theorem byK_draw (l : List Note) (b : List Bool) (d : Int) : ∀ k, 0 ≤ byK l b d k → ∃ x, l[(byK l b d k).toNat]? = some x ∧ x.drawing = d
  | 0, h => by simp [byK] at h
  | k + 1, h => by
    unfold byK at h ⊢
    split
    · rename_i hc
      obtain ⟨x, h1, h2⟩ := Option.map_eq_some_iff.1 hc.2
      exact ⟨x, by simpa using h1, h2⟩
    · rename_i hc
      rw [if_neg hc] at h
      exact byK_draw l b d k h
theorem letF_range {n : Notes} (h0 : checkR n.reg = 0) (hok : allOk n) {d : Int} (hd : d ∈ nums n.reg) (s : List Int) (m : Int) : 1 ≤ letF n s d m ∧ letF n s d m ≤ 8 := by
  have hd0 : d ≠ 0 := by
    intro e; subst e
    obtain ⟨x, hx, e⟩ := numsTo_from _ _ _ hd
    have := check_rng h0 hx
    omega
  unfold letF letterK
  split
  · omega
  · rename_i hk
    obtain ⟨x, h1, h2⟩ := byK_draw n.notes (frcL s [] m n.notes) d (frcL s [] m n.notes).length (by omega)
    rw [h1]
    have h := hok _ x h1
    simp only [nkA, Bool.and_eq_true] at h
    have h4 := h.1.1.1.1.2
    unfold nk4 at h4
    split at h4
    · omega
    · rw [decide_eq_true_eq] at h4
      unfold atE at h4
      rw [if_neg (show ¬ checkR n.reg ≠ 0 by simp [h0])] at h4
      split at h4
      · rename_i hf
        obtain ⟨y, hy⟩ := Option.isSome_iff_exists.1 hf
        have hm := List.mem_of_find?_eq_some hy
        have hp := List.find?_some hy
        simp only [Bool.and_eq_true, beq_iff_eq] at hp
        have := check_rng h0 hm
        show 1 ≤ x.letter ∧ x.letter ≤ 8
        omega
      · cases h4
end Go.Proofs
namespace Go.Ab
open Go
def bcs9 (L : List Bool) : List DC := L.map fun b => .im (.raw (.bool b))
@[simp] theorem fz_bcs9 (m : Nat) (O : List DObj) (L : List Bool) : (bcs9 L).map (fz m O) = bcs9 L := by
  simp only [bcs9, List.map_map]; rfl
end Go.Ab
namespace Go.Proofs
open Go Go.Ab
variable {G : Nat → Option (List IC)}
end Go.Proofs
namespace Go.Proofs
open Go Go.Ab
variable {G : Nat → Option (List IC)}
def Own (Q : Nat → Nat → Nat → List (List IC) → Bool → Prop) (d : DV) (o : List DObj) : Prop := ∃ k g len sz es nl, d = .one (.vec k g 0 len) ∧ o[k]? = some (.vec sz (ims es) g nl) ∧ Q g len sz es nl
set_option maxHeartbeats 1000000 in
theorem lettersPN_c (n : Notes) (s : List Int) (m : Int) (hl : n.notes.length < 1000) (hr : n.reg.length < 1000) (hsl : s.length < 1000) : DCall Tryz.prog G 59 [.one (.im (fileI n)), isv s, iv m] [] (fun d o => ∃ i : Nat × Bool, True ∧ d = .one (.vec 0 i.1 0 (lettersP n s m).length) ∧ o = [.vec 1 (ims ((lettersP n s m).map encI)) i.1 i.2]) := by
  have key : DCall Tryz.prog G 59 [.one (.im (fileI n)), isv s, iv m] [] (Own fun _ len sz es _ => len = (lettersP n s m).length ∧ sz = 1 ∧ es = (lettersP n s m).map encI) := by
    refine DCall_intro Tryz.func59 rfl Tryz.ntmps59 (by simp) rfl ?_
    have c1 := force_c (G := G) n s [] m
    simp only [frcObjs, frcCaps, fileI, iv, isv, bv, rI, List.map_cons, List.map_nil, encMB] at c1 ⊢
    have hs : True := trivial
    repeat' first | (with_reducible first | refine q01 ?_ | refine q11 ?_ | refine q12 ?_) | (refine CallE.embed [] (c1) ?_ ?_ ?_ ?_ ?_ ?_; (focus (simp [emb]; done)); (focus (simp; done)); (focus (simp; done)); (focus (simp; done)); (focus (refine emb_all ?_; simp [emb, embAll]; done)); try simp -dsimp [mergeO, emb, hs]) | (with_reducible refine DT_regionE [0,1,2,6,7,8,10,18,19,20,21] ?_; simp -dsimp [hs])
    all_goals try simp -dsimp [hs]
    all_goals try clear hs
    have hrl := numsTo_length n.reg n.reg.length
    rw [show numsTo n.reg n.reg.length = nums n.reg from rfl] at hrl
    have hE : lettersP n s m = (nums n.reg).map fun d => (byF n s [] m d n.notes.length).letter := rfl
    generalize hP : (fun d => (byF n s [] m d n.notes.length).letter) = P at *
    generalize hns : nums n.reg = ns at *
    refine DT_loop (ι := { p : Nat × Nat × Bool × List (Int × Bool) // p.1 ≤ ns.length ∧ ConsM n s [] m p.2.2.2 }) (fun p => ⟨34, [(0, .one (.im (.ip [.sl (n.reg.map encIssue), .sl (n.notes.map encNote), .sl (ns.map encI), .sl ((isort (openL n.notes)).map encI)]))), (7, .one (.fn (.func 87) [.ptr 6 0, .ptr 1 0, .ptr 2 0, .ptr 3 0, .ptr 4 0, .ptr 7 0])), (8, .one (.vec 8 p.1.2.1 0 p.1.1)), (18, isv ns), (19, iv (ns.length : Int)), (20, iv (p.1.1 : Int))], [.vec 1 [] 0 true] ++ [.row [.im (.ip [.sl (n.reg.map encIssue), .sl (n.notes.map encNote), .sl (ns.map encI), .sl ((isort (openL n.notes)).map encI)])], .row [.im (.sl (s.map encI))], .row [.im (.sl [])], .row [.im (rI m)], .map [.int .i64] (encMB p.1.2.2.2), .row [.map 5], .row [.fn (.func 87) [.ptr 6 0, .ptr 1 0, .ptr 2 0, .ptr 3 0, .ptr 4 0, .ptr 7 0]]] ++ [.vec 1 (ims (((ns.take p.1.1).map P).map encI)) p.1.2.1 p.1.2.2.1]⟩) (fun p => ns.length - p.1.1) ⟨(0, 0, true, []), by simp, ConsM.nil _ _ _ _⟩ (Weak.of_keep [0,7,8,18,19,20] (by simp [encMB])) ?_
    rintro ⟨⟨k, g, nl, M⟩, hk, hM⟩
    simp only at hk hM
    simp only [iv, isv]
    have hlk : ((ns.take k).map P).length = k := by simp; omega
    by_cases hlt : k < ns.length
    · have hw : IntKind.i64.wrap ((k : Int) + 1) = ((k + 1 : Nat) : Int) := i64w (by omega) (by omega)
      have hst : (ns.take (k + 1)).map P = (ns.take k).map P ++ [P ns[k]] := by rw [List.take_succ_eq_append_getElem hlt, List.map_append, List.map_singleton]
      generalize hx : ns[k] = x at *
      have c2 := by_c (G := G) n s [] m x hl hsl (by simp) M hM
      have hPx : (byF n s [] m x n.notes.length).letter = P x := by rw [← hP]
      simp only [frcObjs, frcCaps, fileI, iv, bv, rI, List.map_cons, List.map_nil, hns] at c2
      generalize (ns.take k).map P = L at *
      subst hlk
      have hs : True := trivial
      repeat' first | (with_reducible first | refine q01 ?_ | refine q04 ?_ | refine q11 ?_ | refine q12 ?_ | refine q14 ?_ | refine And.intro (by omega) ?_) | (refine CallE.embed_ex [1,2,3,4,5,6,7] (c2) ?_ ?_ ?_ ?_ ?_ ?_; (focus (simp [emb]; done)); (focus (simp; done)); (focus (simp; done)); (focus (simp; done)); (focus (refine emb_all ?_; simp [emb, embAll]; done)); intro mm hmm; try simp -dsimp [mergeO, emb, hx, hlt, hw, hPx, hs]) | (with_reducible refine DT_regionE [0,1,2,6,7,8,10,18,19,20,21] ?_; simp -dsimp [hx, hlt, hw, hPx, hs]) | (refine DT_cond rfl (fun h => ?_) (fun h => ?_) <;> (try simp only [nrm] at h) <;> (try exact Bool.noConfusion h))
      all_goals try simp -dsimp [hx, hlt, hw, hPx, hs]
      all_goals try clear hs
      all_goals exact At.round ⟨(L.length + 1, g + 1, false, mm), by simp only; omega, hmm⟩ (by simp; omega) (Weak.of_drop [0,7,8,18,19,20] 9 (by simp) (by simp) (by simp [hst, hPx]))
    · obtain rfl : k = ns.length := by omega
      rw [List.take_length] at hlk ⊢
      have hs : True := trivial
      repeat' first | (with_reducible first | refine q01 ?_ | refine q03 ?_ | refine q06 ?_ | refine q11 ?_ | refine q16 ?_ | refine q17 ?_) | (with_reducible refine At.fn_ret (by simp -dsimp [hlt, hs]; exact rfl) ?_) | (with_reducible refine DT_regionE [0,1,2,6,7,8,10,18,19,20,21] ?_; simp -dsimp [hlt, hs]) | (refine DT_cond rfl (fun h => ?_) (fun h => ?_) <;> (try simp only [nrm] at h) <;> (try exact Bool.noConfusion h))
      all_goals try simp -dsimp [hlt, hs]
      all_goals try clear hs
      all_goals exact ⟨8, g, _, _, _, nl, rfl, rfl, by rw [hE, List.length_map], rfl, by rw [hE, List.map_map]⟩
  refine (DCall.last key).mono ?_
  rintro d o ⟨g, len, sz, es, nl, rfl, rfl, rfl, rfl, rfl⟩
  exact ⟨(g, nl), trivial, rfl, rfl⟩
end Go.Proofs
namespace Go.Proofs
open Go Go.Ab
variable {G : Nat → Option (List IC)}
theorem imsSet (X : List (List IC)) (i : Nat) (e : List IC) : ims (X.set i e) = (ims X).set i (e.map .im) := by simp [ims, List.map_set]
def sureTo (n : Notes) (m : Int) (O : List Int) (k : Nat) : List Int := (trTo O k).foldl (fun a t => stepS a (lettersK n t m)) (lettersK n [] m)
theorem lettersK_len (n : Notes) (t : List Int) (m : Int) : (lettersK n t m).length = (nums n.reg).length := by simp [lettersK]
theorem sureTo_len (n : Notes) (m : Int) (O : List Int) : ∀ k, (sureTo n m O k).length = (nums n.reg).length
  | 0 => lettersK_len _ _ _
  | k + 1 => by
    have ih := sureTo_len n m O k
    unfold sureTo at ih ⊢
    rw [trTo_succ, List.foldl_append, List.foldl_cons, List.foldl_nil, stepS_len (by rw [ih, lettersK_len]), ih]
theorem sureTo_succ (n : Notes) (m : Int) (O : List Int) (k : Nat) : sureTo n m O (k + 1) = stepS (sureTo n m O k) (lettersK n (selN O k O.length) m) := by
  unfold sureTo
  rw [trTo_succ, List.foldl_append, List.foldl_cons, List.foldl_nil]
theorem sureTo_zero (n : Notes) (m : Int) (O : List Int) : sureTo n m O 0 = lettersK n [] m := rfl
set_option maxHeartbeats 4000000 in
theorem nSure_c (n : Notes) (m : Int) (hG : sheetG G) (hN : noteG G) (hS : SortOk G) (hs : NSm n) (objs : List DObj) : DCall Tryz.prog G 17 [notesv n, iv m] objs (fun rr objs' => rr = .tup [isv (if askedE n [] m = 0 then sureTo n m (isort (openL n.notes)) (2 ^ (isort (openL n.notes)).length) else []), iv (askedE n [] m)] ∧ objs' = objs) := by
  refine DCall.frame ?_ (by simp) (by simp) objs
  refine DCall_intro Tryz.func17 rfl Tryz.ntmps17 (by simp) rfl ?_
  try simp only [notesv, iv]
  have c1 := asked_c n [] m hG hN hS hs (by simp)
  by_cases h0 : askedE n [] m = 0
  · rw [h0, show askedR n [] m = .one (.im (fileI n)) by unfold askedR; rw [if_pos h0]] at c1
    have hnk := notes_ok (asked_ok h0).1
    have hn12 := hnk.2.1
    have hO5 : (isort (openL n.notes)).length ≤ 5 := by rw [isortL]; exact hnk.2.2.2
    have hrl : n.reg.length < 1000 := by have := hs.1.1; omega
    have c2 := truthsF_c (G := G) (fileI n)
    have c3 := lettersPN_c (G := G) n [] m (by omega) hrl (by simp)
    rw [letters_eq] at c3
    have c4 := fun t (ht : t.length < 1000) => lettersP_c (G := G) n t m (by omega) hrl ht
    rw [if_pos h0, h0]
    have hNl := numsTo_length n.reg n.reg.length
    rw [show numsTo n.reg n.reg.length = nums n.reg from rfl] at hNl
    have hl0 := lettersK_len n [] m
    simp only [fileI, isv, iv, List.map_nil] at c1 c2 c3 c4
    rw [hl0, ← sureTo_zero n m (isort (openL n.notes))] at c3
    generalize hO : isort (openL n.notes) = O at *
    have hs : True := trivial
    repeat' first | (with_reducible first | refine q01 ?_ | refine q11 ?_ | refine q12 ?_ | refine q14 ?_) | (refine CallE.pure (c1) ?_; try simp -dsimp [hs]) | (refine CallE.pure (c2) ?_; try simp -dsimp [hs]) | (refine CallE.embed_ex [] (c3) ?_ ?_ ?_ ?_ ?_ ?_; (focus (simp [emb]; done)); (focus (simp; done)); (focus (simp; done)); (focus (simp; done)); (focus (refine emb_all ?_; simp [emb, embAll]; done)); intro mm hmm; try simp -dsimp [mergeO, emb, hs]) | (with_reducible refine DT_regionE [0,1,2,3,4,5,6,7,8,10,11,12,20,26,28,32,33,34,35,44] ?_; simp -dsimp [hs]) | (refine DT_cond rfl (fun h => ?_) (fun h => ?_) <;> (try simp only [nrm] at h) <;> (try exact Bool.noConfusion h))
    all_goals try simp -dsimp [hs]
    all_goals try clear hs
    refine DT_rangeFunc (f := 86) (by simp; exact rfl) (by rfl) Tryz.call86 ?_
    generalize hR : LoopD.mk _ _ _ _ _ _ _ = R
    have hR1 : R.st = .ready := by rw [← hR]
    have hR2 : R.pend = none := by rw [← hR]
    have hR3 : R.at .ready none = R := by rw [← hR]; rfl
    have hR4 := (congrArg LoopD.nt hR).symm
    have hR5 := (congrArg LoopD.tm hR).symm
    have hR6 := (congrArg LoopD.ps hR).symm
    have hR7 := (congrArg LoopD.asg hR).symm
    have hR8 := (congrArg LoopD.body hR).symm
    dsimp only at hR4 hR5 hR6 hR7 hR8
    clear hR
    refine DCall_intro Tryz.func86 rfl Tryz.ntmps86 (by simp) rfl ?_
    have hR9 : ∀ objs : List DObj, (R.tm.map fun x => (x.1, fzV 8 objs x.2)) = R.tm := by intro objs; rw [hR5]; simp
    obtain ⟨g, nl⟩ := mm
    have hPe : (2 : Nat) ^ O.length ≤ 2 ^ 5 := Nat.pow_le_pow_right (by omega) hO5
    have hmin : min O.length 64 = O.length := by omega
    have hb64 : IntKind.i64.bits = 64 := rfl
    have hlnn : ¬ ((O.length : Int) < 0) := by omega
    have hsh : IntKind.i64.wrap ((2 : Int) ^ O.length) = ((2 ^ O.length : Nat) : Int) := by
      rw [show ((2 : Int) ^ O.length) = ((2 ^ O.length : Nat) : Int) by simp]
      exact (fun (P : Nat) (h : P ≤ 2 ^ 5) => (i64w (by omega) (by omega) : IntKind.i64.wrap (P : Int) = (P : Int))) _ hPe
    generalize hP : 2 ^ O.length = P at *
    have hs : True := trivial
    repeat' first | (with_reducible first | refine q01 ?_ | refine q11 ?_ | refine q12 ?_) | (with_reducible refine DT_regionE [0,1,2,3,4,5,6,7,8,9,10,11,12,20,22,26,28,32,33,34,35,44] ?_; simp -dsimp [hR1, hR2, hR3, hmin, hb64, hlnn, hsh, hs])
    all_goals try simp -dsimp [hR1, hR2, hR3, hmin, hb64, hlnn, hsh, hs]
    all_goals try clear hs
    refine DT_loop (ι := { k : Nat // k ≤ P }) (fun p => ⟨24, [(0, .one (.yld 7)), (1, .one (.im (.ip [.ip [.sl (n.reg.map encIssue), .sl (n.notes.map encNote), .sl ((nums n.reg).map encI), .sl (O.map encI)]]))), (9, iv (P : Int)), (10, iv (p.1 : Int))], [.row ((encNotes n).map .im), .row [.im (rI m)], .vec 1 [] 0 true, .row [.im (.ip [.sl (n.reg.map encIssue), .sl (n.notes.map encNote), .sl ((nums n.reg).map encI), .sl (O.map encI)])], .vec 1 (ims ((sureTo n m O p.1).map encI)) g nl, .vec 0 [] 0 true, .row [.vec 4 g 0 (nums n.reg).length], .loop R]⟩) (fun p => P - p.1) ⟨0, by simp⟩ (Weak.of_keep [0,1,9,10] (by simp)) ?_
    rintro ⟨k, hk⟩
    simp only [iv]
    have hsl := sureTo_len n m O k
    by_cases hlt : k < P
    · have hw : IntKind.i64.wrap ((k : Int) + 1) = ((k + 1 : Nat) : Int) := i64w (by omega) (by omega)
      have hst := sureTo_succ n m O k
      have c5 := some_c (G := G) O k (by omega)
      have htl := selN_len O k O.length
      generalize selN O k O.length = t at *
      have c6 := c4 t (by omega)
      rw [letters_eq] at c6
      have hXl := lettersK_len n t m
      simp only [iv, isv] at c5 c6
      generalize lettersK n t m = X at *
      generalize sureTo n m O k = A at *
      have hAX : A.length = X.length := by omega
      have hz := stepT_zero A X
      have hal2 : stepT A X X.length = stepS A X := by rw [← hAX]; exact stepT_all hAX
      have hs : True := trivial
      repeat' first | (with_reducible first | refine q01 ?_ | refine q11 ?_ | refine q12 ?_ | refine q14 ?_) | (refine At_busy ?_ ?_ <;> simp -dsimp [hR1, hR2, hR3, hlt, hs]) | (refine YieldE_go ?_; simp -dsimp [YieldR, hR4, hR5, hR6, hR7, hR8, hR1, hR2, hR3, hlt, hs]) | (refine CallE.pure (c5) ?_; try simp -dsimp [hR1, hR2, hR3, hlt, hs]) | (refine CallE.pure (c6) ?_; try simp -dsimp [hR1, hR2, hR3, hlt, hs]) | (with_reducible refine DT_regionE [0,1,2,3,4,5,6,7,8,9,10,11,12,20,22,26,28,32,33,34,35,44] ?_; simp -dsimp [hR1, hR2, hR3, hlt, hs]) | (refine DT_cond rfl (fun h => ?_) (fun h => ?_) <;> (try simp only [nrm] at h) <;> (try exact Bool.noConfusion h))
      all_goals try simp -dsimp [hR1, hR2, hR3, hlt, hs]
      all_goals try clear hs
      refine DT_loop (ι := { i : Nat // i ≤ X.length }) (fun p => ⟨50, [(32, isv X), (33, iv (X.length : Int)), (34, iv (p.1 : Int))] ++ R.tm, [.row ((encNotes n).map .im), .row [.im (rI m)], .vec 1 [] 0 true, .row [.im (.ip [.sl (n.reg.map encIssue), .sl (n.notes.map encNote), .sl ((nums n.reg).map encI), .sl (O.map encI)])], .vec 1 (ims ((stepT A X p.1).map encI)) g nl, .vec 0 [] 0 true, .row [.vec 4 g 0 (nums n.reg).length], .loop (R.at .busy none)]⟩) (fun p => X.length - p.1) ⟨0, by simp⟩ (Weak.of_keep [32,33,34,0,1,2,3,4,5,6,7,8,20,26] (by simp [hR5, hz])) ?_
      rintro ⟨i, hi⟩
      simp only [hR5, iv, isv, List.cons_append, List.nil_append]
      have hSl := stepT_len hAX (show i ≤ A.length by omega)
      by_cases hil : i < X.length
      · have hwi : IntKind.i64.wrap ((i : Int) + 1) = ((i + 1 : Nat) : Int) := i64w (by omega) (by omega)
        have hiA : i < A.length := by omega
        have hat := stepT_at hAX hiA
        have hsu := stepT_succ hAX hiA
        generalize hx : X[i] = x at *
        generalize hy : A[i] = y at *
        generalize stepT A X i = S at *
        have hiS : i < S.length := by omega
        have hiN : (i : Int) < ((nums n.reg).length : Int) := by omega
        have hiNn : i < (nums n.reg).length := by omega
        have hat2 : S[i] = y := (List.getElem?_eq_some_iff.1 hat).2
        by_cases hxy : x = y
        · subst hxy
          rw [if_pos rfl] at hsu
          have hss : S.set i x = S := by rw [← hat2]; exact List.set_getElem_self hiS
          rw [hss] at hsu
          have hs : True := trivial
          repeat' first | (with_reducible first | refine q01 ?_ | refine q04 ?_ | refine q11 ?_ | refine q12 ?_ | refine q14 ?_) | (with_reducible refine DT_regionE [0,1,2,3,4,5,6,7,8,9,10,11,12,20,22,26,28,32,33,34,35,44] ?_; simp -dsimp [hR1, hR2, hR3, hx, hil, hwi, hat, hat2, hiN, hiNn, hiS, hs]) | (refine DT_cond rfl (fun h => ?_) (fun h => ?_) <;> (try simp only [nrm] at h) <;> (try exact Bool.noConfusion h))
          all_goals try simp -dsimp [hR1, hR2, hR3, hx, hil, hwi, hat, hat2, hiN, hiNn, hiS, hs]
          all_goals try clear hs
          all_goals exact At.round ⟨i + 1, by omega⟩ (by simp only; omega) (Weak.of_keep [32,33,34,0,1,2,3,4,5,6,7,8,20,26] (by simp [hR5, hsu, List.map_set]))
        · rw [if_neg (show ¬ x = y from hxy)] at hsu
          have hs : True := trivial
          repeat' first | (with_reducible first | refine q01 ?_ | refine q04 ?_ | refine q11 ?_ | refine q12 ?_ | refine q14 ?_) | (with_reducible refine DT_regionE [0,1,2,3,4,5,6,7,8,9,10,11,12,20,22,26,28,32,33,34,35,44] ?_; simp -dsimp [hR1, hR2, hR3, hx, hil, hwi, hat, hat2, hiN, hiNn, hiS, hxy, hs]) | (refine DT_cond rfl (fun h => ?_) (fun h => ?_) <;> (try simp only [nrm] at h) <;> (try exact Bool.noConfusion h))
          all_goals try simp -dsimp [hR1, hR2, hR3, hx, hil, hwi, hat, hat2, hiN, hiNn, hiS, hxy, hs]
          all_goals try clear hs
          all_goals exact At.round ⟨i + 1, by omega⟩ (by simp only; omega) (Weak.of_keep [32,33,34,0,1,2,3,4,5,6,7,8,20,26] (by simp [hR5, hsu, List.map_set]))
      · obtain rfl : i = X.length := by omega
        have hs : True := trivial
        repeat' first | (with_reducible first | refine q01 ?_ | refine q03 ?_ | refine q04 ?_ | refine q06 ?_ | refine q11 ?_ | refine q14 ?_ | refine q16 ?_) | (with_reducible refine At.yield_end ?_; simp -dsimp [hR1, hR2, hR3, hil, hw, hs]) | (with_reducible refine DT_regionE [0,1,2,3,4,5,6,7,8,9,10,11,12,20,22,26,28,32,33,34,35,44] ?_; simp -dsimp [hR1, hR2, hR3, hil, hw, hs]) | (refine DT_cond rfl (fun h => ?_) (fun h => ?_) <;> (try simp only [nrm] at h) <;> (try exact Bool.noConfusion h))
        all_goals try simp -dsimp [hR1, hR2, hR3, hil, hw, hs]
        all_goals try clear hs
        all_goals exact At.round ⟨k + 1, by omega⟩ (by simp only; omega) (Weak.of_keep [0,1,9,10] (by simp [hst, hal2]))
    · obtain rfl : k = P := by omega
      rw [← hsl]
      generalize sureTo n m O k = A at *
      have hs : True := trivial
      repeat' first | (with_reducible first | refine q01 ?_ | refine q03 ?_ | refine q04 ?_ | refine q06 ?_ | refine q11 ?_ | refine q16 ?_ | refine q17 ?_) | (with_reducible refine At.fn_ret (by simp -dsimp [hR1, hR2, hR3, hlt, hs]; exact rfl) ?_) | (with_reducible refine At.fn_end (by simp -dsimp [hR1, hR2, hR3, hlt, hs]; exact rfl) ?_) | (with_reducible show LoopR _ _ _ _ _ _ _ _; simp -dsimp [LoopR, hR1, hR2, hR3, hlt, hs]) | (with_reducible refine DT_regionE [0,1,2,3,4,5,6,7,8,9,10,11,12,20,22,26,28,32,33,34,35,44] ?_; simp -dsimp [hR1, hR2, hR3, hlt, hs]) | (refine DT_cond rfl (fun h => ?_) (fun h => ?_) <;> (try simp only [nrm] at h) <;> (try exact Bool.noConfusion h))
      all_goals try simp -dsimp [hR1, hR2, hR3, hlt, hs]
      all_goals try clear hs
      all_goals simp
  · rw [show askedR n [] m = .one (.im (.raw (.pointer none))) by unfold askedR; rw [if_neg h0]] at c1
    rw [if_neg h0]
    simp only [isv, iv, List.map_nil] at c1
    have hs : True := trivial
    repeat' first | (with_reducible first | refine q01 ?_ | refine q02 ?_ | refine q11 ?_ | refine q17 ?_) | (with_reducible refine At.fn_ret (by simp -dsimp [h0, hs]; exact rfl) ?_) | (refine CallE.pure (c1) ?_; try simp -dsimp [h0, hs]) | (with_reducible refine DT_regionE [0,1,2,3,4,5,6,7,8,10,11,12,20,26,28,32,33,34,35,44] ?_; simp -dsimp [h0, hs]) | (refine DT_cond rfl (fun h => ?_) (fun h => ?_) <;> (try simp only [nrm] at h) <;> (try exact Bool.noConfusion h))
    all_goals try simp -dsimp [h0, hs]
    all_goals try clear hs
    all_goals simp [h0]
end Go.Proofs
namespace Go.Proofs
open Go Go.Ab
variable {G : Nat → Option (List IC)}
end Go.Proofs
namespace Go.Proofs
open Go Go.Ab
def rowM (d : Nat → Bool) (M : Nat) : Nat → Nat
  | 0 => M
  | i + 1 => if d i then rowM d M i ||| 2 ^ i else rowM d M i
def matM (d : Nat → Nat → Bool) (m : Nat) : Nat → Nat
  | 0 => 0
  | s + 1 => rowM (d s) (matM d m s) m
theorem rowM_lt {d : Nat → Bool} {M m : Nat} (h : M < 2 ^ m) : ∀ i, i ≤ m → rowM d M i < 2 ^ m
  | 0, _ => h
  | i + 1, hi => by
    have ih := rowM_lt (d := d) h i (by omega)
    unfold rowM
    split
    · exact Nat.or_lt_two_pow ih (Nat.pow_lt_pow_right (by omega) (by omega))
    · exact ih
theorem matM_lt (d : Nat → Nat → Bool) (m : Nat) : ∀ s, matM d m s < 2 ^ m
  | 0 => Nat.two_pow_pos m
  | s + 1 => rowM_lt (matM_lt d m s) m (Nat.le_refl _)
theorem xor_at {s i : Nat} (hs : s < 32) (hi : i < 5) : IntKind.i64.wrap ((BitVec.ofInt 64 (s : Int) ^^^ BitVec.ofInt 64 ((2 ^ i : Nat) : Int)).toNat : Int) = ((s ^^^ 2 ^ i : Nat) : Int) := by
  have h2 : 2 ^ i < 2 ^ 5 := Nat.pow_lt_pow_right (by omega) hi
  have h3 : s ^^^ 2 ^ i < 2 ^ 5 := Nat.xor_lt_two_pow hs h2
  rw [BitVec.ofInt_natCast, BitVec.ofInt_natCast, BitVec.toNat_xor, BitVec.toNat_ofNat, BitVec.toNat_ofNat, Nat.mod_eq_of_lt (by omega), Nat.mod_eq_of_lt (by omega)]
  exact i64w (by omega) (by omega)
theorem or_at {s i : Nat} (hs : s < 32) (hi : i < 5) : IntKind.i64.wrap ((BitVec.ofInt 64 (s : Int) ||| BitVec.ofInt 64 ((2 ^ i : Nat) : Int)).toNat : Int) = ((s ||| 2 ^ i : Nat) : Int) := by
  have h2 : 2 ^ i < 2 ^ 5 := Nat.pow_lt_pow_right (by omega) hi
  have h3 : s ||| 2 ^ i < 2 ^ 5 := Nat.or_lt_two_pow hs h2
  rw [BitVec.ofInt_natCast, BitVec.ofInt_natCast, BitVec.toNat_or, BitVec.toNat_ofNat, BitVec.toNat_ofNat, Nat.mod_eq_of_lt (by omega), Nat.mod_eq_of_lt (by omega)]
  exact i64w (by omega) (by omega)
def difB (L : List (List Int)) (s i : Nat) : Bool := decide (L[s]? ≠ L[s ^^^ 2 ^ i]?)
end Go.Proofs
