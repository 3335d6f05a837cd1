/- Part 22 of the proofs: laws and walks that hold without conditions beyond those that each theorem names. -/
import Derived.Test.YtmfanojaldiejaaGreatDoorB21
set_option linter.all false
set_option linter.deprecated false
namespace Go.Proofs
open Go Go.Ab
variable {G : Nat → Option (List IC)}
theorem sput_take {O : List Int} {j : Nat} (hd : O.Nodup) (hj : j < O.length) : sput O[j] (O.take j) = O.take (j + 1) := by
  unfold sput
  rw [if_neg, List.take_succ_eq_append_getElem hj]
  intro hm
  obtain ⟨i, hi, e⟩ := List.mem_take_iff_getElem.1 hm
  have := (List.getElem_inj hd).1 e; omega
set_option maxHeartbeats 1000000 in
theorem truth_c (a b c : IC) (O s : List Int) (hd : O.Nodup) (hO : O.length < 1000) (hsl : s.length < 1000) (objs : List DObj) : DCall Tryz.prog G 91 [.one (.im (.ip [a, b, c, .sl (O.map encI)])), isv s] objs (fun rr objs' => rr = iv (if truthB O s then 0 else 31) ∧ objs' = objs) := by
  refine DCall.frame ?_ (by simp) (by simp) objs
  refine DCall_intro Tryz.func91 rfl Tryz.ntmps91 (by simp) rfl ?_
  try simp only [isv]
  have hs : True := trivial
  repeat' first | (with_reducible first | refine q01 ?_ | refine q11 ?_ | refine q12 ?_) | (with_reducible refine DT_regionE [0,1,4,5,7,8,9,14,15,16,17,23,24,25,26,46] ?_; simp -dsimp [hs])
  all_goals try simp -dsimp [hs]
  all_goals try clear hs
  refine DT_loop (ι := { j : Nat // j ≤ O.length }) (fun p => ⟨50, [(1, isv s), (4, iv 0), (5, .one (.map 0)), (14, .one (.im (.sl (O.map encI)))), (15, iv (O.length : Int)), (16, iv (p.1 : Int))], [.map [.int .i64] (encS (O.take p.1))]⟩) (fun p => O.length - p.1) ⟨0, by omega⟩ (Weak.of_keep [1,4,5,14,15,16] (by simp [encS])) ?_
  rintro ⟨j, hj⟩
  simp only [iv, isv]
  by_cases hlt : j < O.length
  · have hw : IntKind.i64.wrap ((j : Int) + 1) = ((j + 1 : Nat) : Int) := i64w (by omega) (by omega)
    have hst := sput_take hd hlt
    generalize hx : O[j] = x at *
    have hs : True := trivial
    repeat' first | (with_reducible first | refine q01 ?_ | refine q04 ?_ | refine q11 ?_ | refine q12 ?_ | refine q14 ?_) | (with_reducible refine DT_regionE [0,1,4,5,7,8,9,14,15,16,17,23,24,25,26,46] ?_; simp -dsimp [hx, hlt, hw, hst, hs]) | (refine DT_cond rfl (fun h => ?_) (fun h => ?_) <;> (try simp only [nrm] at h) <;> (try exact Bool.noConfusion h))
    all_goals try simp -dsimp [hx, hlt, hw, hst, hs]
    all_goals try clear hs
    exact At.round ⟨j + 1, by omega⟩ (by simp; omega) (Weak.of_keep [1,4,5,14,15,16] (by simp [hst]))
  · obtain rfl : j = O.length := by omega
    rw [List.take_length]
    have hs : True := trivial
    repeat' first | (with_reducible first | refine q01 ?_ | refine q03 ?_ | refine q06 ?_ | refine q11 ?_ | refine q12 ?_ | refine q16 ?_) | (with_reducible refine DT_regionE [0,1,4,5,7,8,9,14,15,16,17,23,24,25,26,46] ?_; simp -dsimp [hlt, hs]) | (refine DT_cond rfl (fun h => ?_) (fun h => ?_) <;> (try simp only [nrm] at h) <;> (try exact Bool.noConfusion h))
    all_goals try simp -dsimp [hlt, hs]
    all_goals try clear hs
    refine DT_loop (ι := { p : Nat × List Int // p.1 ≤ s.length ∧ p.2.Nodup ∧ (∀ m, m ∈ p.2 ↔ m ∈ O ∧ m ∉ s.take p.1) ∧ truthTo O s p.1 }) (fun p => ⟨50, [(1, isv s), (5, .one (.map 0)), (23, isv s), (24, iv (s.length : Int)), (25, iv (p.1.1 : Int))], [.map [.int .i64] (encS p.1.2)]⟩) (fun p => s.length - p.1.1) ⟨(0, O), by simp, hd, by simp, fun i v h => by omega⟩ (Weak.of_keep [1,5,23,24,25] (by simp)) ?_
    rintro ⟨⟨i, L⟩, hi, hLd, hLm, hto⟩
    simp only at hi hLd hLm hto
    simp only [iv, isv]
    by_cases hlt2 : i < s.length
    · have hx0 : s[i]? = some s[i] := by simp [hlt2]
      have hw : IntKind.i64.wrap ((i : Int) + 1) = ((i + 1 : Nat) : Int) := i64w (by omega) (by omega)
      have hLv := hLm s[i]
      have hLn : ∀ m, m ∈ L.erase s[i] ↔ m ∈ O ∧ m ∉ s.take (i + 1) := fun m => by
        rw [hLd.mem_erase_iff, hLm, List.take_succ_eq_append_getElem hlt2]
        simp only [List.mem_append, List.mem_singleton, not_or]
        exact ⟨fun h => ⟨h.2.1, h.2.2, h.1⟩, fun h => ⟨h.2.2, h.1, h.2.1⟩⟩
      have hLe := hLd.erase s[i]
      generalize hv : s[i] = v at *
      by_cases hmem : v ∈ L
      · have hmd : decide (v ∈ L) = true := by simp [hmem]
        by_cases h00 : i = 0
        · have hnext := truthTo_step hto hx0 (hLv.1 hmem).1 (fun j u e => by omega)
          subst h00
          have hs : True := trivial
          repeat' first | (with_reducible first | refine q01 ?_ | refine q04 ?_ | refine q11 ?_ | refine q12 ?_ | refine q14 ?_) | (with_reducible refine DT_regionE [0,1,4,5,7,8,9,14,15,16,17,23,24,25,26,46] ?_; simp -dsimp [hv, hlt2, hmd, hmem, hs]) | (refine DT_cond rfl (fun h => ?_) (fun h => ?_) <;> (try simp only [nrm] at h) <;> (try exact Bool.noConfusion h))
          all_goals try simp -dsimp [hv, hlt2, hmd, hmem, hs]
          all_goals try clear hs
          exact At.round ⟨(0 + 1, L.erase v), by omega, hLe, hLn, hnext⟩ (by simp; omega) (Weak.of_keep [1,5,23,24,25] (by simp; exact i64w (by omega) (by omega)))
        · have hq : i - 1 < s.length := by omega
          have hwq : IntKind.i64.wrap ((i : Int) - 1) = ((i - 1 : Nat) : Int) := by rw [i64w (by omega) (by omega)]; omega
          have hi0 : (0 : Int) < (i : Int) := by omega
          have hin0 : 0 < i := by omega
          have hu0 : s[i - 1]? = some s[i - 1] := by simp [hq]
          have hnin : s[i - 1] ≠ v := fun e => (hLv.1 hmem).2 (e ▸ List.mem_take_iff_getElem.2 ⟨i - 1, by omega, rfl⟩)
          generalize hu : s[i - 1] = u at *
          by_cases hlu : v < u
          · have hb := truth_bad (o := O) hx0 (.inr ⟨i - 1, u, by omega, hu0, by omega⟩)
            have hs : True := trivial
            repeat' first | (with_reducible first | refine q01 ?_ | refine q02 ?_ | refine q05 ?_ | refine q11 ?_ | refine q12 ?_ | refine q14 ?_ | refine q17 ?_) | (with_reducible refine At.fn_ret (by simp -dsimp [hv, hu, hq, hlt2, hw, hwq, hmd, hmem, hi0, hin0, hlu, hs]; exact rfl) ?_) | (with_reducible refine DT_regionE [0,1,4,5,7,8,9,14,15,16,17,23,24,25,26,46] ?_; simp -dsimp [hv, hu, hq, hlt2, hw, hwq, hmd, hmem, hi0, hin0, hlu, hs]) | (refine DT_cond rfl (fun h => ?_) (fun h => ?_) <;> (try simp only [nrm] at h) <;> (try exact Bool.noConfusion h))
            all_goals try simp -dsimp [hv, hu, hq, hlt2, hw, hwq, hmd, hmem, hi0, hin0, hlu, hs]
            all_goals try clear hs
            all_goals simp [hb]
          · have hnext := truthTo_step hto hx0 (hLv.1 hmem).1 (fun j u' e hu' => by
              obtain rfl : i - 1 = j := by omega
              rw [hu0] at hu'; cases hu'; omega)
            have hs : True := trivial
            repeat' first | (with_reducible first | refine q01 ?_ | refine q04 ?_ | refine q11 ?_ | refine q12 ?_ | refine q14 ?_) | (with_reducible refine DT_regionE [0,1,4,5,7,8,9,14,15,16,17,23,24,25,26,46] ?_; simp -dsimp [hv, hu, hq, hlt2, hw, hwq, hmd, hmem, hi0, hin0, hlu, hs]) | (refine DT_cond rfl (fun h => ?_) (fun h => ?_) <;> (try simp only [nrm] at h) <;> (try exact Bool.noConfusion h))
            all_goals try simp -dsimp [hv, hu, hq, hlt2, hw, hwq, hmd, hmem, hi0, hin0, hlu, hs]
            all_goals try clear hs
            exact At.round ⟨(i + 1, L.erase v), by omega, hLe, hLn, hnext⟩ (by simp; omega) (Weak.of_keep [1,5,23,24,25] (by simp))
      · have hmd : decide (v ∈ L) = false := by simp [hmem]
        have hb : truthB O s = false := by
          refine truth_bad hx0 ?_
          by_cases ho : v ∈ O
          · refine .inr ?_
            cases i with
            | zero => exact absurd (hLv.2 ⟨ho, by simp⟩) hmem
            | succ q =>
              have hq : q < s.length := by omega
              refine ⟨q, s[q], rfl, by simp [hq], Int.not_lt.1 fun hlt3 => hmem (hLv.2 ⟨ho, truthTo_new hto hq hlt3⟩)⟩
          · exact .inl ho
        have hs : True := trivial
        repeat' first | (with_reducible first | refine q01 ?_ | refine q02 ?_ | refine q05 ?_ | refine q11 ?_ | refine q12 ?_ | refine q14 ?_ | refine q17 ?_) | (with_reducible refine At.fn_ret (by simp -dsimp [hv, hlt2, hmd, hmem, hs]; exact rfl) ?_) | (with_reducible refine DT_regionE [0,1,4,5,7,8,9,14,15,16,17,23,24,25,26,46] ?_; simp -dsimp [hv, hlt2, hmd, hmem, hs]) | (refine DT_cond rfl (fun h => ?_) (fun h => ?_) <;> (try simp only [nrm] at h) <;> (try exact Bool.noConfusion h))
        all_goals try simp -dsimp [hv, hlt2, hmd, hmem, hs]
        all_goals try clear hs
        all_goals simp [hb]
    · have hb : truthB O s = true := truth_good (truthTo_all (by rwa [show i = s.length by omega] at hto))
      have hs : True := trivial
      repeat' first | (with_reducible first | refine q01 ?_ | refine q03 ?_ | refine q06 ?_ | refine q11 ?_ | refine q16 ?_ | refine q17 ?_) | (with_reducible refine At.fn_ret (by simp -dsimp [hlt2, hs]; exact rfl) ?_) | (with_reducible refine DT_regionE [0,1,4,5,7,8,9,14,15,16,17,23,24,25,26,46] ?_; simp -dsimp [hlt2, hs]) | (refine DT_cond rfl (fun h => ?_) (fun h => ?_) <;> (try simp only [nrm] at h) <;> (try exact Bool.noConfusion h))
      all_goals try simp -dsimp [hlt2, hs]
      all_goals try clear hs
      all_goals simp [hb]
def askedE (n : Notes) (s : List Int) (m : Int) : Int := if notesE n ≠ 0 then notesE n else if truthB (isort (openL n.notes)) s = false then 31 else if 1 ≤ m ∧ m ≤ 999 then 0 else 2
def askedR (n : Notes) (s : List Int) (m : Int) : DV := if askedE n s m = 0 then .one (.im (fileI n)) else .one (.im (.raw (.pointer none)))
theorem askedR_im (n : Notes) (s : List Int) (m : Int) : ImV (askedR n s m) := by unfold askedR; split <;> simp [fileI]
attribute [simp] askedR_im
theorem asked_ok {n : Notes} {s : List Int} {m : Int} (h : askedE n s m = 0) : notesE n = 0 ∧ truthB (isort (openL n.notes)) s = true ∧ 1 ≤ m ∧ m ≤ 999 := by
  unfold askedE at h
  split at h
  · contradiction
  · split at h
    · cases h
    · split at h
      · rename_i h1 h2 h3; exact ⟨by simpa using h1, by simpa using h2, h3⟩
      · cases h
theorem notes_ok {n : Notes} (h : notesE n = 0) : checkR n.reg = 0 ∧ n.notes.length ≤ 12 ∧ allOk n ∧ (openL n.notes).length ≤ 5 := by
  unfold notesE at h
  split at h
  · contradiction
  · split at h
    · rename_i h1 h2; exact ⟨by simpa using h1, notesB_iff.1 h2⟩
    · cases h
theorem asked_c (n : Notes) (s : List Int) (m : Int) (hG : sheetG G) (hN : noteG G) (hS : SortOk G) (hs : NSm n) (hsl : s.length < 1000) (objs : List DObj) : DCall Tryz.prog G 58 [notesv n, isv s, iv m] objs (fun rr objs' => rr = .tup [askedR n s m, iv (askedE n s m)] ∧ objs' = objs) := by
  refine DCall.frame ?_ (by simp) (by simp) objs
  refine DCall_intro Tryz.func58 rfl Tryz.ntmps58 (by simp) rfl ?_
  try simp only [notesv, isv, iv]
  have c1 := opened_c n hG hN hS hs
  by_cases h0 : notesE n = 0
  · rw [h0, show fileR n = .one (.im (fileI n)) by unfold fileR; rw [if_pos h0]] at c1
    have hok := notes_ok h0
    have hnl := hs.2.1
    have hol := openL_len n.notes
    have c2 := truth_c (G := G) (.sl (n.reg.map encIssue)) (.sl (n.notes.map encNote)) (.sl ((nums n.reg).map encI)) (isort (openL n.notes)) s (isort_nodup (openL_nodup hok.2.2.1)) (by rw [isort_len]; omega) hsl
    have c3 := in_note (G := G) 1 999 [m] (by simp)
    have hE : askedE n s m = if truthB (isort (openL n.notes)) s = false then 31 else if 1 ≤ m ∧ m ≤ 999 then 0 else 2 := by unfold askedE; rw [if_neg (by simp [h0])]
    simp only [fileI] at c1
    cases ht : truthB (isort (openL n.notes)) s
    · rw [ht] at c2 hE
      have hE : askedE n s m = 31 := by rw [hE]; rfl
      have hs : True := trivial
      repeat' first | (with_reducible first | refine q01 ?_ | refine q02 ?_ | refine q11 ?_ | refine q14 ?_ | refine q17 ?_) | (with_reducible refine At.fn_ret (by simp -dsimp [hs]; exact rfl) ?_) | (refine CallE.pure (c1) ?_; try simp -dsimp [hs]) | (refine CallE.pure (c2) ?_; try simp -dsimp [hs]) | (with_reducible refine DT_regionE [0,1,2,3,6,7,8,9,10,17,23,28] ?_; simp -dsimp [hs]) | (refine DT_cond rfl (fun h => ?_) (fun h => ?_) <;> (try simp only [nrm] at h) <;> (try exact Bool.noConfusion h))
      all_goals try simp -dsimp [hs]
      all_goals try clear hs
      all_goals simp [askedR, hE]
    · rw [ht] at c2 hE
      by_cases hm : 1 ≤ m ∧ m ≤ 999
      · have hE : askedE n s m = 0 := by rw [hE, if_neg (by simp), if_pos hm]
        have hin : ([m].all fun x => decide (1 ≤ x) && decide (x ≤ 999)) = true := by simp [hm]
        rw [hin] at c3
        have hs : True := trivial
        repeat' first | (with_reducible first | refine q01 ?_ | refine q11 ?_ | refine q14 ?_ | refine q17 ?_) | (with_reducible refine At.fn_ret (by simp -dsimp [hs]; exact rfl) ?_) | (refine CallE.pure (c1) ?_; try simp -dsimp [hs]) | (refine CallE.pure (c2) ?_; try simp -dsimp [hs]) | (refine CallE.thaw (c3) ?_ ?_ ?_; (focus (simp; done)); (focus (simp; done)); try simp -dsimp [hs]) | (with_reducible refine DT_regionE [0,1,2,3,6,7,8,9,10,17,23,28] ?_; simp -dsimp [hs]) | (refine DT_cond rfl (fun h => ?_) (fun h => ?_) <;> (try simp only [nrm] at h) <;> (try exact Bool.noConfusion h))
        all_goals try simp -dsimp [hs]
        all_goals try clear hs
        all_goals simp [askedR, hE, fileI]
      · have hE : askedE n s m = 2 := by rw [hE, if_neg (by simp), if_neg hm]
        have hin : ([m].all fun x => decide (1 ≤ x) && decide (x ≤ 999)) = false := by simp; omega
        rw [hin] at c3
        have hs : True := trivial
        repeat' first | (with_reducible first | refine q01 ?_ | refine q02 ?_ | refine q11 ?_ | refine q14 ?_ | refine q17 ?_) | (with_reducible refine At.fn_ret (by simp -dsimp [hs]; exact rfl) ?_) | (refine CallE.pure (c1) ?_; try simp -dsimp [hs]) | (refine CallE.pure (c2) ?_; try simp -dsimp [hs]) | (refine CallE.thaw (c3) ?_ ?_ ?_; (focus (simp; done)); (focus (simp; done)); try simp -dsimp [hs]) | (with_reducible refine DT_regionE [0,1,2,3,6,7,8,9,10,17,23,28] ?_; simp -dsimp [hs]) | (refine DT_cond rfl (fun h => ?_) (fun h => ?_) <;> (try simp only [nrm] at h) <;> (try exact Bool.noConfusion h))
        all_goals try simp -dsimp [hs]
        all_goals try clear hs
        all_goals simp [askedR, hE]
  · rw [show fileR n = .one (.im (.raw (.pointer none))) by unfold fileR; rw [if_neg h0]] at c1
    have hE : askedE n s m = notesE n := by unfold askedE; rw [if_pos h0]
    have hs : True := trivial
    repeat' first | (with_reducible first | refine q01 ?_ | refine q02 ?_ | refine q11 ?_ | refine q17 ?_) | (with_reducible refine At.fn_ret (by simp -dsimp [h0, hs]; exact rfl) ?_) | (refine CallE.pure (c1) ?_; try simp -dsimp [h0, hs]) | (with_reducible refine DT_regionE [0,1,2,3,6,7,8,9,10,17,23,28] ?_; simp -dsimp [h0, hs]) | (refine DT_cond rfl (fun h => ?_) (fun h => ?_) <;> (try simp only [nrm] at h) <;> (try exact Bool.noConfusion h))
    all_goals try simp -dsimp [h0, hs]
    all_goals try clear hs
    all_goals simp [askedR, hE, h0]
def drawnE (n : Notes) (s : List Int) (m d : Int) : Int := if askedE n s m ≠ 0 then askedE n s m else if d ∈ nums n.reg then 0 else 6
def drawnR (n : Notes) (s : List Int) (m d : Int) : DV := if drawnE n s m d = 0 then .one (.im (fileI n)) else .one (.im (.raw (.pointer none)))
theorem drawnR_im (n : Notes) (s : List Int) (m d : Int) : ImV (drawnR n s m d) := by unfold drawnR; split <;> simp [fileI]
attribute [simp] drawnR_im
theorem drawn_c (n : Notes) (s : List Int) (m d : Int) (hG : sheetG G) (hN : noteG G) (hS : SortOk G) (hs : NSm n) (hsl : s.length < 1000) (objs : List DObj) : DCall Tryz.prog G 52 [notesv n, isv s, iv m, iv d] objs (fun rr objs' => rr = .tup [drawnR n s m d, iv (drawnE n s m d)] ∧ objs' = objs) := by
  refine DCall.frame ?_ (by simp) (by simp) objs
  refine DCall_intro Tryz.func52 rfl Tryz.ntmps52 (by simp) rfl ?_
  try simp only [notesv, isv, iv, iv]
  have c1 := asked_c n s m hG hN hS hs hsl
  by_cases h0 : askedE n s m = 0
  · rw [h0, show askedR n s m = .one (.im (fileI n)) by unfold askedR; rw [if_pos h0]] at c1
    have hrl := hs.1.1
    have hnl := numsTo_length n.reg n.reg.length
    have c2 := contains_c (G := G) (nums n.reg) d (by unfold nums; omega)
    have hE : drawnE n s m d = if d ∈ nums n.reg then 0 else 6 := by unfold drawnE; rw [if_neg (by simp [h0])]
    simp only [fileI] at c1
    by_cases hd : d ∈ nums n.reg
    · rw [decide_eq_true hd] at c2
      rw [if_pos hd] at hE
      have hs : True := trivial
      repeat' first | (with_reducible first | refine q01 ?_ | refine q11 ?_ | refine q14 ?_ | refine q17 ?_) | (with_reducible refine At.fn_ret (by simp -dsimp [hs]; exact rfl) ?_) | (refine CallE.pure (c1) ?_; try simp -dsimp [hs]) | (refine CallE.pure (c2) ?_; try simp -dsimp [hs]) | (with_reducible refine DT_regionE [0,1,2,3,4,8,9,10,11,20,28] ?_; simp -dsimp [hs]) | (refine DT_cond rfl (fun h => ?_) (fun h => ?_) <;> (try simp only [nrm] at h) <;> (try exact Bool.noConfusion h))
      all_goals try simp -dsimp [hs]
      all_goals try clear hs
      all_goals simp [drawnR, hE, fileI]
    · rw [decide_eq_false hd] at c2
      rw [if_neg hd] at hE
      have hs : True := trivial
      repeat' first | (with_reducible first | refine q01 ?_ | refine q02 ?_ | refine q11 ?_ | refine q14 ?_ | refine q17 ?_) | (with_reducible refine At.fn_ret (by simp -dsimp [hs]; exact rfl) ?_) | (refine CallE.pure (c1) ?_; try simp -dsimp [hs]) | (refine CallE.pure (c2) ?_; try simp -dsimp [hs]) | (with_reducible refine DT_regionE [0,1,2,3,4,8,9,10,11,20,28] ?_; simp -dsimp [hs]) | (refine DT_cond rfl (fun h => ?_) (fun h => ?_) <;> (try simp only [nrm] at h) <;> (try exact Bool.noConfusion h))
      all_goals try simp -dsimp [hs]
      all_goals try clear hs
      all_goals simp [drawnR, hE]
  · rw [show askedR n s m = .one (.im (.raw (.pointer none))) by unfold askedR; rw [if_neg h0]] at c1
    have hE : drawnE n s m d = askedE n s m := by unfold drawnE; rw [if_pos h0]
    have hs : True := trivial
    repeat' first | (with_reducible first | refine q01 ?_ | refine q02 ?_ | refine q11 ?_ | refine q17 ?_) | (with_reducible refine At.fn_ret (by simp -dsimp [h0, hs]; exact rfl) ?_) | (refine CallE.pure (c1) ?_; try simp -dsimp [h0, hs]) | (with_reducible refine DT_regionE [0,1,2,3,4,8,9,10,11,20,28] ?_; simp -dsimp [h0, hs]) | (refine DT_cond rfl (fun h => ?_) (fun h => ?_) <;> (try simp only [nrm] at h) <;> (try exact Bool.noConfusion h))
    all_goals try simp -dsimp [h0, hs]
    all_goals try clear hs
    all_goals simp [drawnR, hE, h0]
end Go.Proofs
namespace Go.Proofs
open Go Go.Ab
variable {G : Nat → Option (List IC)}
def frcCaps : List DC := [.ptr 5 0, .ptr 0 0, .ptr 1 0, .ptr 2 0, .ptr 3 0, .ptr 6 0]
def frcObjs (n : Notes) (s w : List Int) (m : Int) (M : List (Int × Bool)) : List DObj := [.row [.im (fileI n)], .row [.im (.sl (s.map encI))], .row [.im (.sl (w.map encI))], .row [.im (rI m)], .map [.int .i64] (encMB M), .row [.map 4], .row [.fn (.func 87) frcCaps]]
theorem force_c (n : Notes) (s w : List Int) (m : Int) : DCall Tryz.prog G 55 [.one (.im (fileI n)), isv s, isv w, iv m] [] (fun d o => d = .one (.fn (.func 87) frcCaps) ∧ o = frcObjs n s w m []) := by
  refine DCall_intro Tryz.func55 rfl Tryz.ntmps55 (by simp) rfl ?_
  simp only [isv, iv]
  have hs : True := trivial
  repeat' first | (with_reducible first | refine q01 ?_ | refine q11 ?_ | refine q17 ?_) | (with_reducible refine At.fn_ret (by simp -dsimp [hs]; exact rfl) ?_) | (with_reducible refine DT_regionE [0,1,2,3,4,5,6,7,8,9,10] ?_; simp -dsimp [hs]) | with_reducible refine And.intro ?_ ?_
  all_goals try simp -dsimp [hs]
  all_goals try clear hs
  · rfl
  · simp [frcObjs, frcCaps, encMB]
def frcAt (n : Notes) (s w : List Int) (m : Int) (i : Nat) : Bool := ((frcL s w m n.notes)[i]?).getD false
def ConsM (n : Notes) (s w : List Int) (m : Int) (M : List (Int × Bool)) : Prop := ∀ (k : Nat) (b : Bool), blook (k : Int) M = some b → frcAt n s w m k = b
theorem ConsM.nil (n : Notes) (s w : List Int) (m : Int) : ConsM n s w m [] := fun k b h => by cases h
theorem ConsM.put {n : Notes} {s w : List Int} {m : Int} {M : List (Int × Bool)} (h : ConsM n s w m M) (i : Nat) {b : Bool} (hb : frcAt n s w m i = b) : ConsM n s w m (bput (i : Int) b M) := fun k c hk => by
  rw [blook_bput] at hk
  split at hk
  · rename_i e
    obtain rfl : i = k := by omega
    cases hk; exact hb
  · exact h k c hk
theorem frcAt_eq {n : Notes} {s w : List Int} {m : Int} {i : Nat} (hi : i < n.notes.length) : frcAt n s w m i = (frcB s w m n.notes[i] && frcO n.notes[i].number (n.notes.drop (i + 1)) ((frcL s w m n.notes).drop (i + 1))) := by
  have hl : i < (frcL s w m n.notes).length := by rw [frcL_len]; exact hi
  rw [← frcL_at hi hl, frcAt, List.getElem?_eq_getElem hl]; rfl
theorem frcAt_step {n : Notes} {s w : List Int} {m a : Int} {k : Nat} (hk : k < n.notes.length) : frcO a (n.notes.drop k) ((frcL s w m n.notes).drop k) = (!(frcAt n s w m k && decide (n.notes[k].cancels = a)) && frcO a (n.notes.drop (k + 1)) ((frcL s w m n.notes).drop (k + 1))) := by
  have hl : k < (frcL s w m n.notes).length := by rw [frcL_len]; exact hk
  rw [frcO_step hk hl, frcAt, List.getElem?_eq_getElem hl]; rfl
set_option maxHeartbeats 4000000 in
theorem is_c (n : Notes) (s w : List Int) (m : Int) (hl : n.notes.length < 1000) (hsl : s.length < 1000) (hwl : w.length < 1000) : ∀ (d i : Nat), n.notes.length - i ≤ d → i < n.notes.length → ∀ M, ConsM n s w m M →
    DCall Tryz.prog G 87 (iv (i : Int) :: frcCaps.map .one) (frcObjs n s w m M) (fun r o => ∃ M', ConsM n s w m M' ∧ r = bv (frcAt n s w m i) ∧ o = frcObjs n s w m M') := by
  intro d
  induction d with
  | zero => intro i h1 h2; omega
  | succ d ih =>
    intro i hid hi M hM
    simp only [frcObjs, frcCaps, fileI, iv, bv, rI, List.map_cons, List.map_nil] at ih ⊢
    refine DCall.drop ?_
    refine DCall_intro Tryz.func87 rfl Tryz.ntmps87 (by simp) rfl ?_
    cases hb : blook (i : Int) M with
    | some b =>
      have hf := hM i b hb
      have hs : True := trivial
      repeat' first | (with_reducible first | refine q01 ?_ | refine q02 ?_ | refine q11 ?_ | refine q17 ?_) | (with_reducible refine At.fn_ret (by simp -dsimp [hb, hs]; exact rfl) ?_) | (with_reducible refine DT_regionE [0,1,2,3,4,5,6,8,9,10,11,12,13,20,67] ?_; simp -dsimp [hb, hs]) | (refine DT_cond rfl (fun h => ?_) (fun h => ?_) <;> (try simp only [nrm] at h) <;> (try exact Bool.noConfusion h))
      all_goals try simp -dsimp [hb, hs]
      all_goals try clear hs
      exact ⟨M, hM, by rw [hf], rfl⟩
    | none =>
      generalize hx : n.notes[i] = x at *
      have hF := frcAt_eq (s := s) (w := w) (m := m) hi
      rw [hx] at hF
      have hwi : IntKind.i64.wrap ((i : Int) + 1) = ((i + 1 : Nat) : Int) := i64w (by omega) (by omega)
      have c1 := contains_c (G := G) s x.number (by omega)
      have c2 := contains_c (G := G) w x.number (by omega)
      have c3 := in_note (G := G) x.frm x.to [m] (by simp)
      rw [show ([m].all fun z => decide (x.frm ≤ z) && decide (z ≤ x.to)) = (decide (x.frm ≤ m) && decide (m ≤ x.to)) by simp] at c3
      have hs : True := trivial
      repeat' first | (with_reducible first | refine q01 ?_ | refine q11 ?_ | refine q12 ?_ | refine q14 ?_) | (refine CallE.pure (c1) ?_; try simp -dsimp [hb, hx, hi, hwi, hs]) | (refine CallE.pure (c2) ?_; try simp -dsimp [hb, hx, hi, hwi, hs]) | (refine CallE.thaw (c3) ?_ ?_ ?_; (focus (simp; done)); (focus (simp; done)); try simp -dsimp [hb, hx, hi, hwi, hs]) | (with_reducible refine DT_regionE [0,1,2,3,4,5,6,8,9,10,11,12,13,20,67] ?_; simp -dsimp [hb, hx, hi, hwi, hs]) | (refine DT_cond rfl (fun h => ?_) (fun h => ?_) <;> (try simp only [nrm] at h) <;> (try exact Bool.noConfusion h)) | (with_reducible refine GStop_split ?_ ?_ <;> intro h <;> have h0 := h <;> (try simp only [nrm] at h) <;> (try exact Bool.noConfusion h) <;> have h2 := h <;> (try simp at h2) <;> (replace hs := And.intro h0 (And.intro h (And.intro h2 hs))) <;> simp -dsimp [h0, h, h2, hb, hx, hi, hwi, hs])
      all_goals try simp -dsimp [hb, hx, hi, hwi, hs]
      all_goals try clear hs
      all_goals
        refine DT_loop (ι := { p : Nat × Bool × List (Int × Bool) // i + 1 ≤ p.1 ∧ p.1 ≤ n.notes.length ∧ ConsM n s w m p.2.2 ∧ frcAt n s w m i = (p.2.1 && frcO x.number (n.notes.drop p.1) ((frcL s w m n.notes).drop p.1)) }) (fun p => ⟨92, [(0, iv (i : Int)), (1, .one (.ptr 5 0)), (2, .one (.ptr 0 0)), (3, .one (.ptr 1 0)), (4, .one (.ptr 2 0)), (5, .one (.ptr 3 0)), (6, .one (.ptr 6 0)), (11, .one (.ptr 7 0)), (12, bv p.1.2.1), (13, iv (p.1.1 : Int))], [.row [.im (.ip [.sl (n.reg.map encIssue), .sl (n.notes.map encNote), .sl ((nums n.reg).map encI), .sl ((isort (openL n.notes)).map encI)])], .row [.im (.sl (s.map encI))], .row [.im (.sl (w.map encI))], .row [.im (rI m)], .map [.int .i64] (encMB p.1.2.2), .row [.map 4], .row [.fn (.func 87) [.ptr 5 0, .ptr 0 0, .ptr 1 0, .ptr 2 0, .ptr 3 0, .ptr 6 0]], .row ((encNote x).map .im)]⟩) (fun p => n.notes.length - p.1.1) ⟨(i + 1, frcB s w m x, M), by simp, by simp; omega, hM, hF⟩ (Weak.of_drop [0,1,2,3,4,5,6,11,12,13] 8 (by simp) (by simp) (by clear c1 c2 c3 ih; simp [frcB, *])) ?_
      all_goals
        clear c1 c2 c3 hF hM hb
        rintro ⟨⟨k, v, M2⟩, hk1, hk2, hM2, hv⟩
        simp only at hk1 hk2 hM2 hv
        simp only [iv, bv]
        cases v
        · have hM3 := hM2.put i hv
          have hs : True := trivial
          repeat' first | (with_reducible first | refine q01 ?_ | refine q03 ?_ | refine q06 ?_ | refine q11 ?_ | refine q16 ?_ | refine q17 ?_) | (with_reducible refine At.fn_ret (by simp -dsimp [hs]; exact rfl) ?_) | (with_reducible refine DT_regionE [0,1,2,3,4,5,6,8,9,10,11,12,13,20,67] ?_; simp -dsimp [hs]) | (refine DT_cond rfl (fun h => ?_) (fun h => ?_) <;> (try simp only [nrm] at h) <;> (try exact Bool.noConfusion h))
          all_goals try simp -dsimp [hs]
          all_goals try clear hs
          all_goals exact ⟨_, hM3, by rw [hv]; rfl, rfl⟩
        · by_cases hlk : k < n.notes.length
          · have hwk : IntKind.i64.wrap ((k : Int) + 1) = ((k + 1 : Nat) : Int) := i64w (by omega) (by omega)
            have hih := ih k (by omega) hlk M2 hM2
            rw [Bool.true_and, frcAt_step hlk] at hv
            generalize hy : n.notes[k] = y at *
            by_cases hc : y.cancels = x.number
            · have hvb : ∀ b, frcAt n s w m k = b → frcAt n s w m i = (!b && frcO x.number (n.notes.drop (k + 1)) ((frcL s w m n.notes).drop (k + 1))) := fun b hb => by
                rw [hv, hb, decide_eq_true hc, Bool.and_true]
              have hs : True := trivial
              repeat' first | (with_reducible first | refine q01 ?_ | refine q04 ?_ | refine q11 ?_ | refine q12 ?_ | refine q14 ?_) | (refine CallE.embed_ex [0,1,2,3,4,5,6] (hih) ?_ ?_ ?_ ?_ ?_ ?_; (focus (simp [emb]; done)); (focus (simp; done)); (focus (simp; done)); (focus (simp; done)); (focus (refine emb_all ?_; simp [emb, embAll]; done)); intro mm hmm; try simp -dsimp [mergeO, emb, hx, hy, hlk, hwk, hc, hs]) | (refine DT_regionM (id := 9) (nt := 92) 15 [0,1,2,3,4,5,6,8,9,10,11,12,13,20,67] mixed rfl (by kernel_rfl) ?_; simp -dsimp [hx, hy, hlk, hwk, hc, hs]) | (with_reducible refine DT_regionE [0,1,2,3,4,5,6,8,9,10,11,12,13,20,67] ?_; simp -dsimp [hx, hy, hlk, hwk, hc, hs]) | (refine DT_cond rfl (fun h => ?_) (fun h => ?_) <;> (try simp only [nrm] at h) <;> (try exact Bool.noConfusion h))
              all_goals try simp -dsimp [hx, hy, hlk, hwk, hc, hs]
              all_goals try clear hs
              all_goals exact At.round ⟨(k + 1, !frcAt n s w m k, mm), by simp only; omega, by simp only; omega, hmm, hvb _ rfl⟩ (by simp only; omega) (Weak.of_drop [0,1,2,3,4,5,6,11,12,13] 8 (by simp) (by simp) (by simp))
            · rw [decide_eq_false hc, Bool.and_false, Bool.not_false, Bool.true_and] at hv
              have hs : True := trivial
              repeat' first | (with_reducible first | refine q01 ?_ | refine q04 ?_ | refine q11 ?_ | refine q12 ?_ | refine q14 ?_) | (refine DT_regionM (id := 9) (nt := 92) 15 [0,1,2,3,4,5,6,8,9,10,11,12,13,20,67] mixed rfl (by kernel_rfl) ?_; simp -dsimp [hx, hy, hlk, hwk, hc, hs]) | (with_reducible refine DT_regionE [0,1,2,3,4,5,6,8,9,10,11,12,13,20,67] ?_; simp -dsimp [hx, hy, hlk, hwk, hc, hs]) | (refine DT_cond rfl (fun h => ?_) (fun h => ?_) <;> (try simp only [nrm] at h) <;> (try exact Bool.noConfusion h))
              all_goals try simp -dsimp [hx, hy, hlk, hwk, hc, hs]
              all_goals try clear hs
              all_goals exact At.round ⟨(k + 1, true, M2), by simp only; omega, by simp only; omega, hM2, by rw [hv, Bool.true_and]⟩ (by simp only; omega) (Weak.of_drop [0,1,2,3,4,5,6,11,12,13] 8 (by simp) (by simp) (by simp))
          · rw [frcO_end (by omega), Bool.and_true] at hv
            have hM3 := hM2.put i hv
            have hs : True := trivial
            repeat' first | (with_reducible first | refine q01 ?_ | refine q03 ?_ | refine q06 ?_ | refine q11 ?_ | refine q16 ?_ | refine q17 ?_) | (with_reducible refine At.fn_ret (by simp -dsimp [hlk, hs]; exact rfl) ?_) | (with_reducible refine DT_regionE [0,1,2,3,4,5,6,8,9,10,11,12,13,20,67] ?_; simp -dsimp [hlk, hs]) | (refine DT_cond rfl (fun h => ?_) (fun h => ?_) <;> (try simp only [nrm] at h) <;> (try exact Bool.noConfusion h))
            all_goals try simp -dsimp [hlk, hs]
            all_goals try clear hs
            all_goals exact ⟨_, hM3, by rw [hv], rfl⟩
end Go.Proofs
namespace Go.Proofs
open Go Go.Ab
variable {G : Nat → Option (List IC)}
def byF (n : Notes) (s w : List Int) (m d : Int) (k : Nat) : Note := byN n.notes (frcL s w m n.notes) d k
theorem byF_succ {n : Notes} {s w : List Int} {m d : Int} {k : Nat} (hk : k < n.notes.length) : byF n s w m d (k + 1) = if n.notes[k].drawing = d ∧ frcAt n s w m k = true then n.notes[k] else byF n s w m d k := by
  have hl : k < (frcL s w m n.notes).length := by rw [frcL_len]; exact hk
  unfold byF frcAt
  simp only [byN, List.getElem?_eq_getElem hk, List.getElem?_eq_getElem hl, Option.some.injEq, Option.getD_some]
  by_cases h : (frcL s w m n.notes)[k] = true <;> by_cases h2 : n.notes[k].drawing = d <;> simp [h, h2]
set_option maxHeartbeats 1000000 in
theorem by_c (n : Notes) (s w : List Int) (m d : Int) (hl : n.notes.length < 1000) (hsl : s.length < 1000) (hwl : w.length < 1000) (M : List (Int × Bool)) (hM : ConsM n s w m M) :
    DCall Tryz.prog G 54 [.one (.im (fileI n)), .one (.fn (.func 87) frcCaps), iv d] (frcObjs n s w m M) (fun r o => ∃ M', ConsM n s w m M' ∧ r = notev (byF n s w m d n.notes.length) ∧ o = frcObjs n s w m M') := by
  have ih := fun i hi M hM => is_c (G := G) n s w m hl hsl hwl n.notes.length i (by omega) hi M hM
  simp only [frcObjs, frcCaps, fileI, iv, bv, rI, notev, encNote, rB, List.map_cons, List.map_nil] at ih ⊢
  refine DCall.drop ?_
  refine DCall_intro Tryz.func54 rfl Tryz.ntmps54 (by simp) rfl ?_
  have hw0 : IntKind.i64.wrap ((n.notes.length : Int) - 1) = (n.notes.length : Int) - 1 := i64w (by omega) (by omega)
  have hs : True := trivial
  repeat' first | (with_reducible first | refine q01 ?_ | refine q11 ?_ | refine q12 ?_) | (with_reducible refine DT_regionE [0,1,2,6,7,8,17,36] ?_; simp -dsimp [hw0, hs])
  all_goals try simp -dsimp [hw0, hs]
  all_goals try clear hs
  refine DT_loop (ι := { p : Nat × List (Int × Bool) // p.1 ≤ n.notes.length ∧ ConsM n s w m p.2 ∧ byF n s w m d n.notes.length = byF n s w m d p.1 }) (fun p => ⟨39, [(0, .one (.im (.ip [.sl (n.reg.map encIssue), .sl (n.notes.map encNote), .sl ((nums n.reg).map encI), .sl ((isort (openL n.notes)).map encI)]))), (1, .one (.fn (.func 87) [.ptr 5 0, .ptr 0 0, .ptr 1 0, .ptr 2 0, .ptr 3 0, .ptr 6 0])), (2, iv d), (6, .one (.ptr 7 0)), (7, iv ((p.1.1 : Int) - 1))], [.row [.im (.ip [.sl (n.reg.map encIssue), .sl (n.notes.map encNote), .sl ((nums n.reg).map encI), .sl ((isort (openL n.notes)).map encI)])], .row [.im (.sl (s.map encI))], .row [.im (.sl (w.map encI))], .row [.im (rI m)], .map [.int .i64] (encMB p.1.2), .row [.map 4], .row [.fn (.func 87) [.ptr 5 0, .ptr 0 0, .ptr 1 0, .ptr 2 0, .ptr 3 0, .ptr 6 0]], .row ((encNote ⟨0, 0, 0, 0, 0, 0, 0, 0, false, 0⟩).map .im)]⟩) (fun p => p.1.1) ⟨(n.notes.length, M), by simp, hM, rfl⟩ (Weak.of_keep [0,1,2,6,7] (by simp)) ?_
  clear hM
  rintro ⟨⟨k, M2⟩, hk, hM2, hv⟩
  simp only at hk hM2 hv
  simp only [iv]
  cases k with
  | zero =>
    have hs : True := trivial
    repeat' first | (with_reducible first | refine q01 ?_ | refine q03 ?_ | refine q06 ?_ | refine q11 ?_ | refine q16 ?_ | refine q17 ?_) | (with_reducible refine At.fn_ret (by simp -dsimp [hs]; exact rfl) ?_) | (with_reducible refine DT_regionE [0,1,2,6,7,8,17,36] ?_; simp -dsimp [hs]) | (refine DT_cond rfl (fun h => ?_) (fun h => ?_) <;> (try simp only [nrm] at h) <;> (try exact Bool.noConfusion h))
    all_goals try simp -dsimp [hs]
    all_goals try clear hs
    exact ⟨M2, hM2, by rw [hv]; simp [byF, byN, note1], rfl⟩
  | succ k =>
    have hkl : k < n.notes.length := hk
    have hwk : IntKind.i64.wrap ((k : Int) - 1) = (k : Int) - 1 := i64w (by omega) (by omega)
    have hc := ih k hkl M2 hM2
    rw [byF_succ hkl] at hv
    generalize hx : n.notes[k] = x at *
    by_cases hd : x.drawing = d
    · have hs : True := trivial
      repeat' first | (with_reducible first | refine q01 ?_ | refine q02 ?_ | refine q04 ?_ | refine q05 ?_ | refine q11 ?_ | refine q12 ?_ | refine q14 ?_ | refine q17 ?_) | (with_reducible refine At.fn_ret (by simp -dsimp [hx, hkl, hwk, hd, hs]; exact rfl) ?_) | (refine CallE.embed_ex [0,1,2,3,4,5,6] (hc) ?_ ?_ ?_ ?_ ?_ ?_; (focus (simp [emb]; done)); (focus (simp; done)); (focus (simp; done)); (focus (simp; done)); (focus (refine emb_all ?_; simp [emb, embAll]; done)); intro mm hmm; try simp -dsimp [mergeO, emb, hx, hkl, hwk, hd, hs]) | (with_reducible refine DT_regionE [0,1,2,6,7,8,17,36] ?_; simp -dsimp [hx, hkl, hwk, hd, hs]) | (refine DT_cond rfl (fun h => ?_) (fun h => ?_) <;> (try simp only [nrm] at h) <;> (try exact Bool.noConfusion h))
      all_goals try simp -dsimp [hx, hkl, hwk, hd, hs]
      all_goals try clear hs
      · have e := hv.trans (if_pos ⟨hd, by assumption⟩)
        exact ⟨mm, hmm, by rw [e]; simp [hd], rfl⟩
      · have hf : frcAt n s w m k = false := by assumption
        have e := hv.trans (if_neg fun h => by rw [hf] at h; exact Bool.false_ne_true h.2)
        exact At.round ⟨(k, mm), by simp only; omega, hmm, e⟩ (by simp) (Weak.of_drop [0,1,2,6,7] 8 (by simp) (by simp) (by simp))
    · rw [if_neg fun h => hd h.1] at hv
      have hs : True := trivial
      repeat' first | (with_reducible first | refine q01 ?_ | refine q04 ?_ | refine q11 ?_ | refine q12 ?_ | refine q14 ?_) | (with_reducible refine DT_regionE [0,1,2,6,7,8,17,36] ?_; simp -dsimp [hx, hkl, hwk, hd, hs]) | (refine DT_cond rfl (fun h => ?_) (fun h => ?_) <;> (try simp only [nrm] at h) <;> (try exact Bool.noConfusion h))
      all_goals try simp -dsimp [hx, hkl, hwk, hd, hs]
      all_goals try clear hs
      exact At.round ⟨(k, M2), by simp only; omega, hM2, hv⟩ (by simp) (Weak.of_drop [0,1,2,6,7] 8 (by simp) (by simp) (by simp))
def lettersP (n : Notes) (s : List Int) (m : Int) : List Int := (nums n.reg).map fun d => (byF n s [] m d n.notes.length).letter
set_option maxHeartbeats 1000000 in
theorem lettersP_c (n : Notes) (s : List Int) (m : Int) (hl : n.notes.length < 1000) (hr : n.reg.length < 1000) (hsl : s.length < 1000) (objs : List DObj) : DCall Tryz.prog G 59 [.one (.im (fileI n)), isv s, iv m] objs (fun rr objs' => rr = isv (lettersP n s m) ∧ objs' = objs) := by
  refine DCall.frame ?_ (by simp) (by simp) objs
  refine DCall_intro Tryz.func59 rfl Tryz.ntmps59 (by simp) rfl ?_
  try simp only [isv, iv]
  have c1 := force_c (G := G) n s [] m
  simp only [frcObjs, frcCaps, fileI, iv, isv, bv, rI, List.map_cons, List.map_nil, encMB] at c1 ⊢
  have hs : True := trivial
  repeat' first | (with_reducible first | refine q01 ?_ | refine q11 ?_ | refine q12 ?_) | (refine CallE.embed [] (c1) ?_ ?_ ?_ ?_ ?_ ?_; (focus (simp [emb]; done)); (focus (simp; done)); (focus (simp; done)); (focus (simp; done)); (focus (refine emb_all ?_; simp [emb, embAll]; done)); try simp -dsimp [mergeO, emb, hs]) | (with_reducible refine DT_regionE [0,1,2,6,7,8,10,18,19,20,21] ?_; simp -dsimp [hs])
  all_goals try simp -dsimp [hs]
  all_goals try clear hs
  have hrl := numsTo_length n.reg n.reg.length
  rw [show numsTo n.reg n.reg.length = nums n.reg from rfl] at hrl
  have hE : lettersP n s m = (nums n.reg).map fun d => (byF n s [] m d n.notes.length).letter := rfl
  generalize hP : (fun d => (byF n s [] m d n.notes.length).letter) = P at *
  generalize hns : nums n.reg = ns at *
  refine DT_loop (ι := { p : Nat × Nat × Bool × List (Int × Bool) // p.1 ≤ ns.length ∧ ConsM n s [] m p.2.2.2 }) (fun p => ⟨34, [(0, .one (.im (.ip [.sl (n.reg.map encIssue), .sl (n.notes.map encNote), .sl (ns.map encI), .sl ((isort (openL n.notes)).map encI)]))), (7, .one (.fn (.func 87) [.ptr 6 0, .ptr 1 0, .ptr 2 0, .ptr 3 0, .ptr 4 0, .ptr 7 0])), (8, .one (.vec 8 p.1.2.1 0 p.1.1)), (18, isv ns), (19, iv (ns.length : Int)), (20, iv (p.1.1 : Int))], [.vec 1 [] 0 true] ++ [.row [.im (.ip [.sl (n.reg.map encIssue), .sl (n.notes.map encNote), .sl (ns.map encI), .sl ((isort (openL n.notes)).map encI)])], .row [.im (.sl (s.map encI))], .row [.im (.sl [])], .row [.im (rI m)], .map [.int .i64] (encMB p.1.2.2.2), .row [.map 5], .row [.fn (.func 87) [.ptr 6 0, .ptr 1 0, .ptr 2 0, .ptr 3 0, .ptr 4 0, .ptr 7 0]]] ++ [.vec 1 (ims (((ns.take p.1.1).map P).map encI)) p.1.2.1 p.1.2.2.1]⟩) (fun p => ns.length - p.1.1) ⟨(0, 0, true, []), by simp, ConsM.nil _ _ _ _⟩ (Weak.of_keep [0,7,8,18,19,20] (by simp [encMB])) ?_
  rintro ⟨⟨k, g, nl, M⟩, hk, hM⟩
  simp only at hk hM
  simp only [iv, isv]
  have hlk : ((ns.take k).map P).length = k := by simp; omega
  by_cases hlt : k < ns.length
  · have hw : IntKind.i64.wrap ((k : Int) + 1) = ((k + 1 : Nat) : Int) := i64w (by omega) (by omega)
    have hst : (ns.take (k + 1)).map P = (ns.take k).map P ++ [P ns[k]] := by rw [List.take_succ_eq_append_getElem hlt, List.map_append, List.map_singleton]
    generalize hx : ns[k] = x at *
    have c2 := by_c (G := G) n s [] m x hl hsl (by simp) M hM
    have hPx : (byF n s [] m x n.notes.length).letter = P x := by rw [← hP]
    simp only [frcObjs, frcCaps, fileI, iv, bv, rI, List.map_cons, List.map_nil, hns] at c2
    generalize (ns.take k).map P = L at *
    subst hlk
    have hs : True := trivial
    repeat' first | (with_reducible first | refine q01 ?_ | refine q04 ?_ | refine q11 ?_ | refine q12 ?_ | refine q14 ?_ | refine And.intro (by omega) ?_) | (refine CallE.embed_ex [1,2,3,4,5,6,7] (c2) ?_ ?_ ?_ ?_ ?_ ?_; (focus (simp [emb]; done)); (focus (simp; done)); (focus (simp; done)); (focus (simp; done)); (focus (refine emb_all ?_; simp [emb, embAll]; done)); intro mm hmm; try simp -dsimp [mergeO, emb, hx, hlt, hw, hPx, hs]) | (with_reducible refine DT_regionE [0,1,2,6,7,8,10,18,19,20,21] ?_; simp -dsimp [hx, hlt, hw, hPx, hs]) | (refine DT_cond rfl (fun h => ?_) (fun h => ?_) <;> (try simp only [nrm] at h) <;> (try exact Bool.noConfusion h))
    all_goals try simp -dsimp [hx, hlt, hw, hPx, hs]
    all_goals try clear hs
    all_goals exact At.round ⟨(L.length + 1, g + 1, false, mm), by simp only; omega, hmm⟩ (by simp; omega) (Weak.of_drop [0,7,8,18,19,20] 9 (by simp) (by simp) (by simp [hst, hPx]))
  · obtain rfl : k = ns.length := by omega
    rw [List.take_length] at hlk ⊢
    have hs : True := trivial
    repeat' first | (with_reducible first | refine q01 ?_ | refine q03 ?_ | refine q06 ?_ | refine q11 ?_ | refine q16 ?_ | refine q17 ?_) | (with_reducible refine At.fn_ret (by simp -dsimp [hlt, hs]; exact rfl) ?_) | (with_reducible refine DT_regionE [0,1,2,6,7,8,10,18,19,20,21] ?_; simp -dsimp [hlt, hs]) | (refine DT_cond rfl (fun h => ?_) (fun h => ?_) <;> (try simp only [nrm] at h) <;> (try exact Bool.noConfusion h))
    all_goals try simp -dsimp [hlt, hs]
    all_goals try clear hs
    simp [hE]
theorem nForce_c (n : Notes) (s : List Int) (m : Int) (hG : sheetG G) (hN : noteG G) (hS : SortOk G) (hs : NSm n) (hsl : s.length < 1000) (objs : List DObj) : DCall Tryz.prog G 27 [notesv n, isv s, iv m] objs (fun rr objs' => rr = .tup [isv (if askedE n s m = 0 then inT n.notes (frcL s [] m n.notes) n.notes.length else []), iv (askedE n s m)] ∧ objs' = objs) := by
  refine DCall.frame ?_ (by simp) (by simp) objs
  refine DCall_intro Tryz.func27 rfl Tryz.ntmps27 (by simp) rfl ?_
  try simp only [notesv, isv, iv]
  have c1 := asked_c n s m hG hN hS hs hsl
  by_cases h0 : askedE n s m = 0
  · rw [h0, show askedR n s m = .one (.im (fileI n)) by unfold askedR; rw [if_pos h0]] at c1
    have c2 := force_c (G := G) n s [] m
    simp only [frcObjs, frcCaps, fileI, iv, isv, bv, rI, List.map_cons, List.map_nil, encMB] at c1 c2 ⊢
    have hs : True := trivial
    repeat' first | (with_reducible first | refine q01 ?_ | refine q11 ?_ | refine q12 ?_ | refine q14 ?_) | (refine CallE.pure (c1) ?_; try simp -dsimp [hs]) | (refine CallE.embed [] (c2) ?_ ?_ ?_ ?_ ?_ ?_; (focus (simp [emb]; done)); (focus (simp; done)); (focus (simp; done)); (focus (simp; done)); (focus (refine emb_all ?_; simp [emb, embAll]; done)); try simp -dsimp [mergeO, emb, hs]) | (with_reducible refine DT_regionE [0,1,2,3,6,7,8,9,10,11,12,21,29,30,31,35] ?_; simp -dsimp [hs]) | (refine DT_cond rfl (fun h => ?_) (fun h => ?_) <;> (try simp only [nrm] at h) <;> (try exact Bool.noConfusion h))
    all_goals try simp -dsimp [hs]
    all_goals try clear hs
    have hl12 := (notes_ok (asked_ok h0).1).2.1
    rw [if_pos h0]
    have hFl := frcL_len s [] m n.notes
    refine DT_loop (ι := { p : Nat × Nat × Bool × List (Int × Bool) // p.1 ≤ n.notes.length ∧ ConsM n s [] m p.2.2.2 }) (fun p => ⟨47, [(3, .one (.ptr 0 0)), (10, .one (.fn (.func 87) [.ptr 7 0, .ptr 2 0, .ptr 3 0, .ptr 4 0, .ptr 5 0, .ptr 8 0])), (11, .one (.vec 9 p.1.2.1 0 (inT n.notes (frcL s [] m n.notes) p.1.1).length)), (29, iv (n.notes.length : Int)), (30, iv (p.1.1 : Int))], [.row ((encNotes n).map .im), .vec 1 [] 0 true] ++ [.row [.im (.ip [.sl (n.reg.map encIssue), .sl (n.notes.map encNote), .sl ((nums n.reg).map encI), .sl ((isort (openL n.notes)).map encI)])], .row [.im (.sl (s.map encI))], .row [.im (.sl [])], .row [.im (rI m)], .map [.int .i64] (encMB p.1.2.2.2), .row [.map 6], .row [.fn (.func 87) [.ptr 7 0, .ptr 2 0, .ptr 3 0, .ptr 4 0, .ptr 5 0, .ptr 8 0]]] ++ [.vec 1 (ims ((inT n.notes (frcL s [] m n.notes) p.1.1).map encI)) p.1.2.1 p.1.2.2.1]⟩) (fun p => n.notes.length - p.1.1) ⟨(0, 0, true, []), by simp, ConsM.nil _ _ _ _⟩ (Weak.of_keep [3,10,11,29,30] (by simp [encMB, inT_zero])) ?_
    rintro ⟨⟨k, g, nl, M⟩, hk, hM⟩
    simp only at hk hM
    simp only [iv]
    have hlk := inT_len n.notes (frcL s [] m n.notes) k
    by_cases hlt : k < n.notes.length
    · have hw : IntKind.i64.wrap ((k : Int) + 1) = ((k + 1 : Nat) : Int) := i64w (by omega) (by omega)
      have hf : k < (frcL s [] m n.notes).length := by omega
      have hst := inT_succ hlt hf
      rw [show (frcL s [] m n.notes)[k] = frcAt n s [] m k by rw [frcAt, List.getElem?_eq_getElem hf]; rfl] at hst
      generalize hx : n.notes[k] = x at *
      have c3 := is_c (G := G) n s [] m (by omega) hsl (by simp) n.notes.length k (by omega) hlt M hM
      simp only [frcObjs, frcCaps, fileI, iv, bv, rI, List.map_cons, List.map_nil] at c3
      generalize inT n.notes (frcL s [] m n.notes) k = L at *
      have hs : True := trivial
      repeat' first | (with_reducible first | refine q01 ?_ | refine q04 ?_ | refine q11 ?_ | refine q12 ?_ | refine q14 ?_ | refine And.intro (by omega) ?_) | (refine CallE.embed_ex [2,3,4,5,6,7,8] (c3) ?_ ?_ ?_ ?_ ?_ ?_; (focus (simp [emb]; done)); (focus (simp; done)); (focus (simp; done)); (focus (simp; done)); (focus (refine emb_all ?_; simp [emb, embAll]; done)); intro mm hmm; try simp -dsimp [mergeO, emb, hx, hlt, hw, hs]) | (with_reducible refine DT_regionE [0,1,2,3,6,7,8,9,10,11,12,21,29,30,31,35] ?_; simp -dsimp [hx, hlt, hw, hs]) | (refine DT_cond rfl (fun h => ?_) (fun h => ?_) <;> (try simp only [nrm] at h) <;> (try exact Bool.noConfusion h))
      all_goals try simp -dsimp [hx, hlt, hw, hs]
      all_goals try clear hs
      · have e := hst.trans (by rw [if_pos (by assumption)])
        exact At.round ⟨(k + 1, g + 1, false, mm), by simp only; omega, hmm⟩ (by simp; omega) (Weak.of_drop [3,10,11,29,30] 10 (by simp) (by simp) (by simp [e]))
      · have hff : frcAt n s [] m k = false := by assumption
        have e := hst.trans (by rw [hff, if_neg Bool.false_ne_true, List.append_nil])
        exact At.round ⟨(k + 1, g, nl, mm), by simp only; omega, hmm⟩ (by simp; omega) (Weak.of_drop [3,10,11,29,30] 10 (by simp) (by simp) (by simp [e]))
    · obtain rfl : k = n.notes.length := by omega
      have hs : True := trivial
      repeat' first | (with_reducible first | refine q01 ?_ | refine q03 ?_ | refine q06 ?_ | refine q11 ?_ | refine q16 ?_ | refine q17 ?_) | (with_reducible refine At.fn_ret (by simp -dsimp [hlt, hs]; exact rfl) ?_) | (with_reducible refine DT_regionE [0,1,2,3,6,7,8,9,10,11,12,21,29,30,31,35] ?_; simp -dsimp [hlt, hs]) | (refine DT_cond rfl (fun h => ?_) (fun h => ?_) <;> (try simp only [nrm] at h) <;> (try exact Bool.noConfusion h))
      all_goals try simp -dsimp [hlt, hs]
      all_goals try clear hs
      all_goals simp [*]
  · rw [show askedR n s m = .one (.im (.raw (.pointer none))) by unfold askedR; rw [if_neg h0]] at c1
    have hs : True := trivial
    repeat' first | (with_reducible first | refine q01 ?_ | refine q02 ?_ | refine q11 ?_ | refine q17 ?_) | (with_reducible refine At.fn_ret (by simp -dsimp [h0, hs]; exact rfl) ?_) | (refine CallE.pure (c1) ?_; try simp -dsimp [h0, hs]) | (with_reducible refine DT_regionE [0,1,2,3,6,7,8,9,10,11,12,21,29,30,31,35] ?_; simp -dsimp [h0, hs]) | (refine DT_cond rfl (fun h => ?_) (fun h => ?_) <;> (try simp only [nrm] at h) <;> (try exact Bool.noConfusion h))
    all_goals try simp -dsimp [h0, hs]
    all_goals try clear hs
    all_goals simp [h0]
theorem nLetters_c (n : Notes) (s : List Int) (m : Int) (hG : sheetG G) (hN : noteG G) (hS : SortOk G) (hs : NSm n) (hsl : s.length < 1000) (objs : List DObj) : DCall Tryz.prog G 21 [notesv n, isv s, iv m] objs (fun rr objs' => rr = .tup [isv (if askedE n s m = 0 then lettersP n s m else []), iv (askedE n s m)] ∧ objs' = objs) := by
  refine DCall.frame ?_ (by simp) (by simp) objs
  refine DCall_intro Tryz.func21 rfl Tryz.ntmps21 (by simp) rfl ?_
  try simp only [notesv, isv, iv]
  have c1 := asked_c n s m hG hN hS hs hsl
  by_cases h0 : askedE n s m = 0
  · rw [h0, show askedR n s m = .one (.im (fileI n)) by unfold askedR; rw [if_pos h0]] at c1
    have hl12 := hs.2.1
    have hr80 := hs.1.1
    have c2 := lettersP_c (G := G) n s m (by omega) (by omega) hsl
    simp only [fileI] at c1 c2
    rw [if_pos h0]
    have hs : True := trivial
    repeat' first | (with_reducible first | refine q01 ?_ | refine q11 ?_ | refine q14 ?_ | refine q17 ?_) | (with_reducible refine At.fn_ret (by simp -dsimp [hs]; exact rfl) ?_) | (refine CallE.pure (c1) ?_; try simp -dsimp [hs]) | (refine CallE.pure (c2) ?_; try simp -dsimp [hs]) | (with_reducible refine DT_regionE [0,1,2,3,6,7,8,9,18] ?_; simp -dsimp [hs]) | (refine DT_cond rfl (fun h => ?_) (fun h => ?_) <;> (try simp only [nrm] at h) <;> (try exact Bool.noConfusion h))
    all_goals try simp -dsimp [hs]
    all_goals try clear hs
    all_goals simp [h0]
  · rw [show askedR n s m = .one (.im (.raw (.pointer none))) by unfold askedR; rw [if_neg h0]] at c1
    have hs : True := trivial
    repeat' first | (with_reducible first | refine q01 ?_ | refine q02 ?_ | refine q11 ?_ | refine q17 ?_) | (with_reducible refine At.fn_ret (by simp -dsimp [h0, hs]; exact rfl) ?_) | (refine CallE.pure (c1) ?_; try simp -dsimp [h0, hs]) | (with_reducible refine DT_regionE [0,1,2,3,6,7,8,9,18] ?_; simp -dsimp [h0, hs]) | (refine DT_cond rfl (fun h => ?_) (fun h => ?_) <;> (try simp only [nrm] at h) <;> (try exact Bool.noConfusion h))
    all_goals try simp -dsimp [h0, hs]
    all_goals try clear hs
    all_goals simp [h0]
theorem nBy_c (n : Notes) (s : List Int) (d m : Int) (hG : sheetG G) (hN : noteG G) (hS : SortOk G) (hs : NSm n) (hsl : s.length < 1000) (objs : List DObj) : DCall Tryz.prog G 28 [notesv n, isv s, iv d, iv m] objs (fun rr objs' => rr = .tup [iv (if drawnE n s m d = 0 then (byF n s [] m d n.notes.length).number else 0), iv (drawnE n s m d)] ∧ objs' = objs) := by
  refine DCall.frame ?_ (by simp) (by simp) objs
  refine DCall_intro Tryz.func28 rfl Tryz.ntmps28 (by simp) rfl ?_
  try simp only [notesv, isv, iv, iv]
  have c1 := drawn_c n s m d hG hN hS hs hsl
  by_cases h0 : drawnE n s m d = 0
  · rw [h0, show drawnR n s m d = .one (.im (fileI n)) by unfold drawnR; rw [if_pos h0]] at c1
    have c2 := force_c (G := G) n s [] m
    have hl12 := hs.2.1
    have c3 := by_c (G := G) n s [] m d (by omega) hsl (by simp) [] (ConsM.nil _ _ _ _)
    simp only [frcObjs, frcCaps, fileI, iv, isv, bv, rI, List.map_cons, List.map_nil, encMB] at c1 c2 c3 ⊢
    rw [if_pos h0]
    have hs : True := trivial
    repeat' first | (with_reducible first | refine q01 ?_ | refine q11 ?_ | refine q14 ?_ | refine q17 ?_) | (with_reducible refine At.fn_ret (by simp -dsimp [hs]; exact rfl) ?_) | (refine CallE.pure (c1) ?_; try simp -dsimp [hs]) | (refine CallE.embed [] (c2) ?_ ?_ ?_ ?_ ?_ ?_; (focus (simp [emb]; done)); (focus (simp; done)); (focus (simp; done)); (focus (simp; done)); (focus (refine emb_all ?_; simp [emb, embAll]; done)); try simp -dsimp [mergeO, emb, hs]) | (refine CallE.embed_ex [1,2,3,4,5,6,7] (c3) ?_ ?_ ?_ ?_ ?_ ?_; (focus (simp [emb]; done)); (focus (simp; done)); (focus (simp; done)); (focus (simp; done)); (focus (refine emb_all ?_; simp [emb, embAll]; done)); intro mm hmm; try simp -dsimp [mergeO, emb, hs]) | (with_reducible refine DT_regionE [0,1,2,3,4,8,9,10,11,21] ?_; simp -dsimp [hs]) | (refine DT_cond rfl (fun h => ?_) (fun h => ?_) <;> (try simp only [nrm] at h) <;> (try exact Bool.noConfusion h))
    all_goals try simp -dsimp [hs]
    all_goals try clear hs
    all_goals simp [h0]
  · rw [show drawnR n s m d = .one (.im (.raw (.pointer none))) by unfold drawnR; rw [if_neg h0]] at c1
    have hs : True := trivial
    repeat' first | (with_reducible first | refine q01 ?_ | refine q02 ?_ | refine q11 ?_ | refine q17 ?_) | (with_reducible refine At.fn_ret (by simp -dsimp [h0, hs]; exact rfl) ?_) | (refine CallE.pure (c1) ?_; try simp -dsimp [h0, hs]) | (with_reducible refine DT_regionE [0,1,2,3,4,8,9,10,11,21] ?_; simp -dsimp [h0, hs]) | (refine DT_cond rfl (fun h => ?_) (fun h => ?_) <;> (try simp only [nrm] at h) <;> (try exact Bool.noConfusion h))
    all_goals try simp -dsimp [h0, hs]
    all_goals try clear hs
    all_goals simp [h0]
end Go.Proofs
namespace Go.Proofs
open Go Go.Ab
variable {G : Nat → Option (List IC)}
end Go.Proofs
namespace Go.Proofs
open Go Go.Ab
variable {G : Nat → Option (List IC)}
def lettersK (n : Notes) (s : List Int) (m : Int) : List Int := (nums n.reg).map fun d => letterK n.notes (frcL s [] m n.notes) d
end Go.Proofs
namespace Go.Proofs
open Go Go.Ab
theorem byF_at (n : Notes) (s w : List Int) (m d : Int) : byF n s w m d n.notes.length = if byK n.notes (frcL s w m n.notes) d n.notes.length < 0 then note1 else (n.notes[(byK n.notes (frcL s w m n.notes) d n.notes.length).toNat]?).getD note1 := by
  unfold byF
  rw [byN_K _ _ _ _ (Nat.le_refl _)]
  split
  · rfl
  · split <;> simp [*]
theorem byK_get {l : List Note} {b : List Bool} {d : Int} {k : Nat} (hk : k ≤ l.length) (h : ¬ byK l b d k < 0) : (byK l b d k).toNat < l.length := by
  have := (byK_lt l b d k).2; omega
theorem letters_eq (n : Notes) (s : List Int) (m : Int) : lettersP n s m = lettersK n s m := by
  refine List.map_congr_left fun d _ => ?_
  rw [byF_at]
  unfold letterK
  rw [frcL_len]
  split
  · rfl
  · rename_i h
    have hl := byK_get (Nat.le_refl _) h
    rw [List.getElem?_eq_getElem hl]; rfl
end Go.Proofs
namespace Go.Ab
open Go
def dedupI : List Int → List Int
  | [] => []
  | [a] => [a]
  | a :: b :: r => if a = b then dedupI (b :: r) else a :: dedupI (b :: r)
theorem dedupI_snoc : ∀ (l : List Int) (u v : Int), dedupI (l ++ [u, v]) = if u = v then dedupI (l ++ [u]) else dedupI (l ++ [u]) ++ [v]
  | [], u, v => by simp only [List.nil_append, dedupI]; split <;> simp [*]
  | [a], u, v => by
    simp only [List.cons_append, List.nil_append, dedupI]
    split <;> split <;> simp [*]
  | a :: b :: r, u, v => by
    have ih := dedupI_snoc (b :: r) u v
    simp only [List.cons_append, dedupI] at ih ⊢
    rw [ih]
    split <;> split <;> simp
theorem dedupI_len : ∀ l : List Int, (dedupI l).length ≤ l.length
  | [] => by simp [dedupI]
  | [a] => by simp [dedupI]
  | a :: b :: r => by
    have := dedupI_len (b :: r)
    simp only [dedupI]; split <;> simp at * <;> omega
theorem dedupI_mem : ∀ (l : List Int) (x : Int), x ∈ dedupI l ↔ x ∈ l
  | [], x => by simp [dedupI]
  | [a], x => by simp [dedupI]
  | a :: b :: r, x => by
    have ih := dedupI_mem (b :: r) x
    simp only [dedupI]
    split
    · rename_i h; subst h; rw [ih]; simp
    · rw [List.mem_cons, ih, List.mem_cons (a := x) (b := a)]
theorem dedupI_lt : ∀ (l : List Int), l.Pairwise (· ≤ ·) → (dedupI l).Pairwise (· < ·)
  | [], _ => by simp [dedupI]
  | [a], _ => by simp [dedupI]
  | a :: b :: r, h => by
    obtain ⟨h1, h2⟩ := List.pairwise_cons.1 h
    have ih := dedupI_lt (b :: r) h2
    simp only [dedupI]
    split
    · exact ih
    · rename_i hne
      refine List.pairwise_cons.2 ⟨fun x hx => ?_, ih⟩
      have hb := h1 b (by simp)
      rcases List.mem_cons.1 ((dedupI_mem _ _).1 hx) with rfl | hx
      · omega
      · have := (List.pairwise_cons.1 h2).1 x hx; omega
theorem take_two {l : List Int} {k : Nat} (h : k + 1 < l.length) : l.take (k + 2) = l.take k ++ [l[k], l[k + 1]] := by
  rw [show k + 2 = k + 1 + 1 from rfl, List.take_succ_eq_append_getElem h, List.take_succ_eq_append_getElem (by omega), List.append_assoc]; rfl
theorem dedup_step {l : List Int} {k : Nat} (h : k + 1 < l.length) : dedupI (l.take (k + 2)) = if l[k] = l[k + 1] then dedupI (l.take (k + 1)) else dedupI (l.take (k + 1)) ++ [l[k + 1]] := by
  rw [take_two h, dedupI_snoc, List.take_succ_eq_append_getElem (by omega)]
theorem set_take {l : List Int} {k : Nat} {v : Int} (h : k < l.length) : (l.set k v).take (k + 1) = l.take k ++ [v] := by
  rw [List.take_succ_eq_append_getElem (by simpa using h)]
  simp [List.take_set_of_le]
end Go.Ab
namespace Go.Ab
open Go
structure Str where
  frm : Int
  to : Int
  letter : Int
  deriving DecidableEq
def encStr (x : Str) : List IC := [rI x.frm, rI x.to, rI x.letter]
def strv (l : List Str) : DV := .one (.im (.sl (l.map encStr)))
attribute [simp] encStr strv
def stepP (L : List Str) (m c : Int) : List Str := match L.getLast? with
  | none => [⟨m, 999, c⟩]
  | some y => if (⟨y.frm, 999, c⟩ : Str) = y then L else L.dropLast ++ [⟨y.frm, m - 1, y.letter⟩] ++ [⟨m, 999, c⟩]
def strP (f : Int → Int) (M : List Int) : List Str := M.foldl (fun L m => stepP L m (f m)) []
theorem of_last {L : List Str} {y : Str} (h : L.getLast? = some y) : L = L.dropLast ++ [y] := by
  have hne : L ≠ [] := by rintro rfl; simp at h
  have := (List.dropLast_concat_getLast hne).symm
  rw [List.getLast?_eq_some_getLast hne] at h
  rw [Option.some.inj h] at this; exact this
end Go.Ab
namespace Go.Proofs
open Go Go.Ab
def rawM (l : List Note) : List Int := 1 :: l.flatMap fun x => [x.frm, x.to + 1]
def marksP (l : List Note) : List Int := (dedupI (isort (rawM l))).filter fun m => decide (m ≤ 999)
theorem marks_mem {l : List Note} {m : Int} : m ∈ marksP l ↔ (m = 1 ∨ ∃ x ∈ l, m = x.frm ∨ m = x.to + 1) ∧ m ≤ 999 := by
  simp only [marksP, List.mem_filter, dedupI_mem, isort_mem, rawM, List.mem_cons, List.mem_flatMap, List.not_mem_nil, or_false, decide_eq_true_eq]
theorem marks_len (l : List Note) : (marksP l).length ≤ 2 * l.length + 1 := by
  have h1 := List.length_filter_le (fun m : Int => decide (m ≤ 999)) (dedupI (isort (rawM l)))
  have h2 := dedupI_len (isort (rawM l))
  have h3 : (rawM l).length = 2 * l.length + 1 := by
    unfold rawM
    have : ∀ l : List Note, (l.flatMap fun x => [x.frm, x.to + 1]).length = 2 * l.length := fun l => by
      induction l with
      | nil => rfl
      | cons a r ih => rw [List.flatMap_cons, List.length_append, ih, List.length_cons, List.length_cons, List.length_cons, List.length_nil]; omega
    rw [List.length_cons, this]
  rw [isort_len, h3] at h2
  unfold marksP; omega
theorem nk3_of {n : Notes} (hok : allOk n) {x : Note} (hx : x ∈ n.notes) : 1 ≤ x.frm ∧ x.frm ≤ x.to ∧ x.to ≤ 999 := by
  obtain ⟨i, hi, e⟩ := List.mem_iff_getElem.1 hx
  have h := hok i x (by rw [List.getElem?_eq_getElem hi, e])
  simp only [nkA, nk3, Bool.and_eq_true, decide_eq_true_eq] at h
  omega
def letF (n : Notes) (s : List Int) (d m : Int) : Int := letterK n.notes (frcL s [] m n.notes) d
theorem byF_let (n : Notes) (s : List Int) (m d : Int) : (byF n s [] m d n.notes.length).letter = letF n s d m := by
  rw [byF_at]
  unfold letF letterK
  rw [frcL_len]
  split
  · rfl
  · rename_i h
    have hl := byK_get (Nat.le_refl _) h
    rw [List.getElem?_eq_getElem hl]; rfl
end Go.Proofs
namespace Go.Proofs
open Go Go.Ab
def stepS (a b : List Int) : List Int := List.zipWith (fun x y => if y = x then x else 0) a b
theorem stepS_len {a b : List Int} (h : a.length = b.length) : (stepS a b).length = a.length := by simp [stepS, h]
def stepT (a b : List Int) (k : Nat) : List Int := (stepS a b).take k ++ a.drop k
theorem stepT_zero (a b : List Int) : stepT a b 0 = a := by simp [stepT]
theorem stepT_all {a b : List Int} (h : a.length = b.length) : stepT a b a.length = stepS a b := by
  unfold stepT
  rw [List.take_of_length_le (by rw [stepS_len h]; omega), List.drop_length, List.append_nil]
theorem stepT_len {a b : List Int} (h : a.length = b.length) {k : Nat} (hk : k ≤ a.length) : (stepT a b k).length = a.length := by
  simp [stepT, stepS_len h]; omega
theorem stepT_at {a b : List Int} (h : a.length = b.length) {k : Nat} (hk : k < a.length) : (stepT a b k)[k]? = some a[k] := by
  unfold stepT
  rw [List.getElem?_append_right (by simp [stepS_len h]; omega)]
  simp [stepS_len h, Nat.min_eq_left (Nat.le_of_lt hk), hk]
theorem stepT_succ {a b : List Int} (h : a.length = b.length) {k : Nat} (hk : k < a.length) : stepT a b (k + 1) = (stepT a b k).set k (if b[k]'(by omega) = a[k] then a[k] else 0) := by
  have hs : k < (stepS a b).length := by rw [stepS_len h]; exact hk
  have hv : (stepS a b)[k] = if b[k]'(by omega) = a[k] then a[k] else 0 := by simp [stepS]
  unfold stepT
  rw [List.take_succ_eq_append_getElem hs, hv, List.drop_eq_getElem_cons hk, List.append_assoc, List.singleton_append]
  rw [List.set_append_right _ _ (by simp; omega)]
  rw [List.length_take, Nat.min_eq_left (Nat.le_of_lt hs), Nat.sub_self, List.set_cons_zero]
end Go.Proofs
namespace Go.Proofs
open Go Go.Ab
variable {G : Nat → Option (List IC)}
def NKind (n : Notes) : Prop := (∀ x ∈ n.reg, 0 ≤ x.kind ∧ x.kind ≤ 255) ∧ ∀ x ∈ n.notes, 0 ≤ x.ways ∧ x.ways ≤ 255 ∧ 0 ≤ x.signed ∧ x.signed ≤ 255
theorem NSm_of {n : Notes} (hk : NKind n) (h : smallNB n = true) : SmallN n ∧ NSm n := by
  simp only [smallNB, Bool.and_eq_true, decide_eq_true_eq] at h
  refine ⟨h, ⟨h.1.1, fun x hx => ⟨(hk.1 x hx).1, (hk.1 x hx).2, h.1.2 x hx⟩⟩, h.2, hk.2⟩
end Go.Proofs
