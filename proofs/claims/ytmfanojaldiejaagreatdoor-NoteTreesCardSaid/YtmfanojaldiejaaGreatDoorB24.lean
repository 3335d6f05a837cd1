/- Part 24 of the proofs: laws and walks that hold without conditions beyond those that each theorem names. -/
import Derived.Test.YtmfanojaldiejaaGreatDoorB15
import Derived.Test.YtmfanojaldiejaaGreatDoorB17
import Derived.Test.YtmfanojaldiejaaGreatDoorB20
import Derived.Test.YtmfanojaldiejaaGreatDoorB21
import Derived.Test.YtmfanojaldiejaaGreatDoorB22
import Derived.Test.YtmfanojaldiejaaGreatDoorB23
set_option linter.all false
set_option linter.deprecated false
namespace Go.Proofs
open Go Go.Ab
variable {G : Nat → Option (List IC)}
theorem equal_c (a b : List Int) (ha : a.length < 1000000) (hb : b.length < 1000000) (objs : List DObj) : DCall Tryz.prog G 74 [isv a, isv b] objs (fun rr objs' => rr = bv (decide (a = b)) ∧ objs' = objs) := by
  refine DCall.frame ?_ (by simp) (by simp) objs
  refine DCall_intro Tryz.func74 rfl Tryz.ntmps74 (by simp) rfl ?_
  try simp only [isv, isv]
  by_cases hl : a.length = b.length
  · have hli : (a.length : Int) = b.length := by omega
    have hs : True := trivial
    repeat' first | (with_reducible first | refine q01 ?_ | refine q11 ?_ | refine q12 ?_ | refine q14 ?_) | (with_reducible refine DT_regionE [0,1,4,5,10,12,13,14,24] ?_; simp -dsimp [hl, hli, hs]) | (refine DT_cond rfl (fun h => ?_) (fun h => ?_) <;> (try simp only [nrm] at h) <;> (try exact Bool.noConfusion h))
    all_goals try simp -dsimp [hl, hli, hs]
    all_goals try clear hs
    refine DT_loop (ι := { k : Nat // k ≤ b.length ∧ a.take k = b.take k }) (fun p => ⟨26, [(0, isv a), (1, isv b), (12, iv (b.length : Int)), (13, iv (p.1 : Int))], []⟩) (fun p => b.length - p.1) ⟨0, by simp⟩ (Weak.of_keep [0,1,12,13] (by simp [hl])) ?_
    rintro ⟨k, hk, he⟩
    simp only [iv, isv]
    by_cases hlt : k < b.length
    · have hw : IntKind.i64.wrap ((k : Int) + 1) = ((k + 1 : Nat) : Int) := i64w (by omega) (by omega)
      have hka : k < a.length := by omega
      have hta : a.take (k + 1) = a.take k ++ [a[k]] := List.take_succ_eq_append_getElem hka
      have htb : b.take (k + 1) = b.take k ++ [b[k]] := List.take_succ_eq_append_getElem hlt
      generalize hx : a[k] = x at *
      generalize hy : b[k] = y at *
      by_cases hxy : x = y
      · have hs : True := trivial
        repeat' first | (with_reducible first | refine q01 ?_ | refine q04 ?_ | refine q11 ?_ | refine q12 ?_ | refine q14 ?_) | (refine DT_regionM (id := 6) (nt := 26) 9 [0,1,4,5,10,12,13,14,24] mixed rfl (by kernel_rfl) ?_; simp -dsimp [hx, hy, hlt, hka, hw, hxy, hs]) | (with_reducible refine DT_regionE [0,1,4,5,10,12,13,14,24] ?_; simp -dsimp [hx, hy, hlt, hka, hw, hxy, hs]) | (refine DT_cond rfl (fun h => ?_) (fun h => ?_) <;> (try simp only [nrm] at h) <;> (try exact Bool.noConfusion h))
        all_goals try simp -dsimp [hx, hy, hlt, hka, hw, hxy, hs]
        all_goals try clear hs
        all_goals exact At.round ⟨k + 1, by omega, by rw [hta, htb, he, hxy]⟩ (by simp only; omega) (Weak.of_keep [0,1,12,13] (by simp [hl]))
      · have hne : ¬ a = b := fun e => hxy (by subst e; rw [← hx, ← hy])
        have hs : True := trivial
        repeat' first | (with_reducible first | refine q01 ?_ | refine q02 ?_ | refine q05 ?_ | refine q11 ?_ | refine q12 ?_ | refine q14 ?_ | refine q17 ?_) | (with_reducible refine At.fn_ret (by simp -dsimp [hx, hy, hlt, hka, hxy, hs]; exact rfl) ?_) | (refine DT_regionM (id := 6) (nt := 26) 9 [0,1,4,5,10,12,13,14,24] mixed rfl (by kernel_rfl) ?_; simp -dsimp [hx, hy, hlt, hka, hxy, hs]) | (with_reducible refine DT_regionE [0,1,4,5,10,12,13,14,24] ?_; simp -dsimp [hx, hy, hlt, hka, hxy, hs]) | (refine DT_cond rfl (fun h => ?_) (fun h => ?_) <;> (try simp only [nrm] at h) <;> (try exact Bool.noConfusion h))
        all_goals try simp -dsimp [hx, hy, hlt, hka, hxy, hs]
        all_goals try clear hs
        all_goals simp [hne]
    · obtain rfl : k = b.length := by omega
      rw [List.take_length, ← hl, List.take_length] at he
      have hs : True := trivial
      repeat' first | (with_reducible first | refine q01 ?_ | refine q03 ?_ | refine q06 ?_ | refine q11 ?_ | refine q16 ?_ | refine q17 ?_) | (with_reducible refine At.fn_ret (by simp -dsimp [hlt, hs]; exact rfl) ?_) | (with_reducible refine DT_regionE [0,1,4,5,10,12,13,14,24] ?_; simp -dsimp [hlt, hs]) | (refine DT_cond rfl (fun h => ?_) (fun h => ?_) <;> (try simp only [nrm] at h) <;> (try exact Bool.noConfusion h))
      all_goals try simp -dsimp [hlt, hs]
      all_goals try clear hs
      all_goals simp [he]
  · have hli : ¬ (a.length : Int) = b.length := by omega
    have hne : ¬ a = b := fun e => hl (by rw [e])
    have hs : True := trivial
    repeat' first | (with_reducible first | refine q01 ?_ | refine q02 ?_ | refine q11 ?_ | refine q17 ?_) | (with_reducible refine At.fn_ret (by simp -dsimp [hl, hli, hs]; exact rfl) ?_) | (with_reducible refine DT_regionE [0,1,4,5,10,12,13,14,24] ?_; simp -dsimp [hl, hli, hs]) | (refine DT_cond rfl (fun h => ?_) (fun h => ?_) <;> (try simp only [nrm] at h) <;> (try exact Bool.noConfusion h))
    all_goals try simp -dsimp [hl, hli, hs]
    all_goals try clear hs
    all_goals simp [hne]
def letsL (n : Notes) (m : Int) (O : List Int) (k : Nat) : List (List Int) := (trTo O k).map fun t => lettersK n t m
theorem letsL_len (n : Notes) (m : Int) (O : List Int) (k : Nat) : (letsL n m O k).length = k := by simp [letsL, trTo_len]
theorem letsL_succ (n : Notes) (m : Int) (O : List Int) (k : Nat) : letsL n m O (k + 1) = letsL n m O k ++ [lettersK n (selN O k O.length) m] := by simp [letsL, trTo_succ]
theorem letsL_mem {n : Notes} {m : Int} {O : List Int} {k s : Nat} {X : List Int} (h : (letsL n m O k)[s]? = some X) : X.length = (nums n.reg).length := by
  obtain ⟨t, _, rfl⟩ := List.mem_map.1 (List.mem_of_getElem? h)
  exact lettersK_len n t m
def tabL (n : Notes) (m : Int) (O : List Int) (P k : Nat) : List (List Int) := letsL n m O k ++ List.replicate (P - k) []
theorem tabL_len (n : Notes) (m : Int) (O : List Int) {P k : Nat} (h : k ≤ P) : (tabL n m O P k).length = P := by simp [tabL, letsL_len]; omega
theorem tabL_zero (n : Notes) (m : Int) (O : List Int) (P : Nat) : tabL n m O P 0 = List.replicate P [] := by simp [tabL, letsL, trTo]
theorem tabL_full (n : Notes) (m : Int) (O : List Int) (P : Nat) : tabL n m O P P = letsL n m O P := by simp [tabL]
theorem tabL_set (n : Notes) (m : Int) (O : List Int) {P k : Nat} (h : k < P) : tabL n m O P (k + 1) = (tabL n m O P k).set k (lettersK n (selN O k O.length) m) := by
  unfold tabL
  rw [letsL_succ, List.set_append_right _ _ (by simp [letsL_len]), List.append_assoc]
  congr 1
  rw [show P - k = (P - (k + 1)) + 1 by omega, List.replicate_succ]
  simp [letsL_len]
set_option maxHeartbeats 8000000 in
theorem nMatters_c (n : Notes) (m : Int) (hG : sheetG G) (hN : noteG G) (hS : SortOk G) (hs : NSm n) (objs : List DObj) : DCall Tryz.prog G 36 [notesv n, iv m] objs (fun rr objs' => rr = .tup [isv (if askedE n [] m = 0 then selN (isort (openL n.notes)) (matM (difB (letsL n m (isort (openL n.notes)) (2 ^ (isort (openL n.notes)).length))) (isort (openL n.notes)).length (2 ^ (isort (openL n.notes)).length)) (isort (openL n.notes)).length else []), iv (askedE n [] m)] ∧ objs' = objs) := by
  refine DCall.frame ?_ (by simp) (by simp) objs
  refine DCall_intro Tryz.func36 rfl Tryz.ntmps36 (by simp) rfl ?_
  try simp only [notesv, iv]
  have c1 := asked_c n [] m hG hN hS hs (by simp)
  by_cases h0 : askedE n [] m = 0
  · rw [h0, show askedR n [] m = .one (.im (fileI n)) by unfold askedR; rw [if_pos h0]] at c1
    have hnk := notes_ok (asked_ok h0).1
    have hn12 := hnk.2.1
    have hO5 : (isort (openL n.notes)).length ≤ 5 := by rw [isortL]; exact hnk.2.2.2
    have hrl : n.reg.length < 1000 := by have := hs.1.1; omega
    have c2 := truthsF_c (G := G) (fileI n)
    have c4 := fun t (ht : t.length < 1000) => lettersP_c (G := G) n t m (by omega) hrl ht
    rw [if_pos h0, h0]
    have hNl := numsTo_length n.reg n.reg.length
    rw [show numsTo n.reg n.reg.length = nums n.reg from rfl] at hNl
    simp only [fileI, isv, iv, List.map_nil] at c1 c2 c4
    generalize hO : isort (openL n.notes) = O at *
    have hPe : (2 : Nat) ^ O.length ≤ 2 ^ 5 := Nat.pow_le_pow_right (by omega) hO5
    have hmin : min O.length 64 = O.length := by omega
    have hb64 : IntKind.i64.bits = 64 := rfl
    have hlnn : ¬ ((O.length : Int) < 0) := by omega
    have hxlt : ∀ s i, s < 2 ^ O.length → i < O.length → s ^^^ 2 ^ i < 2 ^ O.length := fun s i h1 h2 => Nat.xor_lt_two_pow h1 (Nat.pow_lt_pow_right (by omega) h2)
    have hMlt := matM_lt (difB (letsL n m O (2 ^ O.length))) O.length
    have hsh : IntKind.i64.wrap ((2 : Int) ^ O.length) = ((2 ^ O.length : Nat) : Int) := by
      rw [show ((2 : Int) ^ O.length) = ((2 ^ O.length : Nat) : Int) by simp]
      exact (fun (P : Nat) (h : P ≤ 2 ^ 5) => (i64w (by omega) (by omega) : IntKind.i64.wrap (P : Int) = (P : Int))) _ hPe
    generalize hP : 2 ^ O.length = P at *
    have hP24 : P * 24 ≤ 140737488355328 := by omega
    have hP9 : P ≤ 9223372036854775807 := by omega
    have hs : True := trivial
    repeat' first | (with_reducible first | refine q01 ?_ | refine q11 ?_ | refine q12 ?_ | refine q14 ?_) | (refine CallE.pure (c1) ?_; try simp -dsimp [hmin, hb64, hlnn, hsh, hP24, hP9, hs]) | (refine CallE.pure (c2) ?_; try simp -dsimp [hmin, hb64, hlnn, hsh, hP24, hP9, hs]) | (with_reducible refine DT_regionE [0,1,2,3,4,5,6,7,8,9,10,11,12,13,14,22,32,33,34,42,43,44,45,53,54,55,66] ?_; simp -dsimp [hmin, hb64, hlnn, hsh, hP24, hP9, hs]) | (refine DT_cond rfl (fun h => ?_) (fun h => ?_) <;> (try simp only [nrm] at h) <;> (try exact Bool.noConfusion h))
    all_goals try simp -dsimp [hmin, hb64, hlnn, hsh, hP24, hP9, hs]
    all_goals try clear hs
    refine DT_rangeFunc (f := 86) (by simp; exact rfl) (by rfl) Tryz.call86 ?_
    generalize hR : LoopD.mk _ _ _ _ _ _ _ = R
    have hR1 : R.st = .ready := by rw [← hR]
    have hR2 : R.pend = none := by rw [← hR]
    have hR3 : R.at .ready none = R := by rw [← hR]; rfl
    have hR4 := (congrArg LoopD.nt hR).symm
    have hR5 := (congrArg LoopD.tm hR).symm
    have hR6 := (congrArg LoopD.ps hR).symm
    have hR7 := (congrArg LoopD.asg hR).symm
    have hR8 := (congrArg LoopD.body hR).symm
    dsimp only at hR4 hR5 hR6 hR7 hR8
    clear hR
    refine DCall_intro Tryz.func86 rfl Tryz.ntmps86 (by simp) rfl ?_
    have hR9 : ∀ objs : List DObj, (R.tm.map fun x => (x.1, fzV 7 objs x.2)) = R.tm := by intro objs; rw [hR5]; simp
    have ht0 := tabL_zero n m O P
    have hs : True := trivial
    repeat' first | (with_reducible first | refine q01 ?_ | refine q11 ?_ | refine q12 ?_) | (with_reducible refine DT_regionE [0,1,2,3,4,5,6,7,8,9,10,11,12,13,14,22,32,33,34,42,43,44,45,53,54,55,66] ?_; simp -dsimp [hR1, hR2, hR3, hmin, hb64, hlnn, hsh, hs])
    all_goals try simp -dsimp [hR1, hR2, hR3, hmin, hb64, hlnn, hsh, hs]
    all_goals try clear hs
    refine DT_loop (ι := { k : Nat // k ≤ P }) (fun p => ⟨24, [(0, .one (.yld 7)), (1, .one (.im (.ip [.ip [.sl (n.reg.map encIssue), .sl (n.notes.map encNote), .sl ((nums n.reg).map encI), .sl (O.map encI)]]))), (9, iv (P : Int)), (10, iv (p.1 : Int))], [.row ((encNotes n).map .im), .row [.im (rI m)], .vec 1 [] 0 true, .row [.im (.ip [.sl (n.reg.map encIssue), .sl (n.notes.map encNote), .sl ((nums n.reg).map encI), .sl (O.map encI)])], .vec 1 (ims ((tabL n m O P p.1).map encL)) 0 false, .vec 0 [] 0 true, .row [.vec 4 0 0 P], .loop R]⟩) (fun p => P - p.1) ⟨0, by simp⟩ (Weak.of_keep [0,1,9,10] (by simp [ht0])) ?_
    rintro ⟨k, hk⟩
    simp only [iv]
    have htl := tabL_len n m O hk
    by_cases hlt : k < P
    · have hw : IntKind.i64.wrap ((k : Int) + 1) = ((k + 1 : Nat) : Int) := i64w (by omega) (by omega)
      have hst := tabL_set n m O hlt
      have c5 := some_c (G := G) O k (by omega)
      have htl2 := selN_len O k O.length
      generalize selN O k O.length = t at *
      have c6 := c4 t (by omega)
      rw [letters_eq] at c6
      simp only [iv, isv] at c5 c6
      generalize lettersK n t m = X at *
      generalize tabL n m O P k = T at *
      have hkT : k < T.length := by omega
      have hs : True := trivial
      repeat' first | (with_reducible first | refine q01 ?_ | refine q04 ?_ | refine q11 ?_ | refine q12 ?_ | refine q14 ?_) | (with_reducible refine At.yield_end ?_; simp -dsimp [hR1, hR2, hR3, hlt, hw, hkT, hs]) | (refine At_busy ?_ ?_ <;> simp -dsimp [hR1, hR2, hR3, hlt, hw, hkT, hs]) | (refine YieldE_go ?_; simp -dsimp [YieldR, hR4, hR5, hR6, hR7, hR8, hR1, hR2, hR3, hlt, hw, hkT, hs]) | (refine CallE.pure (c5) ?_; try simp -dsimp [hR1, hR2, hR3, hlt, hw, hkT, hs]) | (refine QCall_pure (c6) ?_; try simp -dsimp [hR1, hR2, hR3, hlt, hw, hkT, hs]) | (refine DT_regionM (id := 8) (nt := 79) 7 [0,1,2,3,4,5,6,7,8,9,10,11,12,13,14,22,32,33,34,42,43,44,45,53,54,55,66] mixed rfl (by kernel_rfl) ?_; simp -dsimp [hR1, hR2, hR3, hlt, hw, hkT, hs]) | (with_reducible refine DT_regionE [0,1,2,3,4,5,6,7,8,9,10,11,12,13,14,22,32,33,34,42,43,44,45,53,54,55,66] ?_; simp -dsimp [hR1, hR2, hR3, hlt, hw, hkT, hs]) | (refine DT_cond rfl (fun h => ?_) (fun h => ?_) <;> (try simp only [nrm] at h) <;> (try exact Bool.noConfusion h))
      all_goals try simp -dsimp [hR1, hR2, hR3, hlt, hw, hkT, hs]
      all_goals try clear hs
      all_goals exact At.round ⟨k + 1, by omega⟩ (by simp only; omega) (Weak.of_keep [0,1,9,10] (by simp [hst, List.map_set]))
    · obtain rfl : k = P := by omega
      rw [tabL_full]
      have hLl := letsL_len n m O k
      have hLm := fun s X (h : (letsL n m O k)[s]? = some X) => letsL_mem h
      generalize letsL n m O k = L at *
      have hs : True := trivial
      repeat' first | (with_reducible first | refine q01 ?_ | refine q03 ?_ | refine q04 ?_ | refine q06 ?_ | refine q11 ?_ | refine q12 ?_ | refine q16 ?_) | (with_reducible refine At.fn_end (by simp -dsimp [hR1, hR2, hR3, hlt, hs]; exact rfl) ?_) | (with_reducible show LoopR _ _ _ _ _ _ _ _; simp -dsimp [LoopR, hR1, hR2, hR3, hlt, hs]) | (with_reducible refine DT_regionE [0,1,2,3,4,5,6,7,8,9,10,11,12,13,14,22,32,33,34,42,43,44,45,53,54,55,66] ?_; simp -dsimp [hR1, hR2, hR3, hlt, hs]) | (refine DT_cond rfl (fun h => ?_) (fun h => ?_) <;> (try simp only [nrm] at h) <;> (try exact Bool.noConfusion h))
      all_goals try simp -dsimp [hR1, hR2, hR3, hlt, hs]
      all_goals try clear hs
      refine DT_loop (ι := { s : Nat // s ≤ k }) (fun p => ⟨79, [(6, .one (.ptr 3 0)), (8, .one (.ptr 6 0)), (11, iv ((matM (difB L) O.length p.1 : Nat) : Int)), (42, .one (.vec 4 0 0 k)), (43, iv (k : Int)), (44, iv (p.1 : Int))], [.row ((encNotes n).map .im), .row [.im (rI m)], .vec 1 [] 0 true, .row [.im (.ip [.sl (n.reg.map encIssue), .sl (n.notes.map encNote), .sl ((nums n.reg).map encI), .sl (O.map encI)])], .vec 1 (ims (L.map encL)) 0 false, .vec 0 [] 0 true, .row [.vec 4 0 0 k]]⟩) (fun p => k - p.1) ⟨0, by simp⟩ (Weak.of_drop [6,8,11,42,43,44] 7 (by simp) (by simp) (by simp [matM])) ?_
      rintro ⟨s, hs'⟩
      simp only [iv]
      have hMs := hMlt s
      by_cases hls : s < k
      · have hws : IntKind.i64.wrap ((s : Int) + 1) = ((s + 1 : Nat) : Int) := i64w (by omega) (by omega)
        have hsL : s < L.length := by omega
        have hX : L[s]? = some L[s] := List.getElem?_eq_getElem hsL
        have hXl := hLm s _ hX
        have hMn : matM (difB L) O.length (s + 1) = rowM (difB L s) (matM (difB L) O.length s) O.length := rfl
        have hdif : ∀ i Y, L[s ^^^ 2 ^ i]? = some Y → difB L s i = !decide (L[s] = Y) := fun i Y h => by
          unfold difB; rw [h, hX]; by_cases e : L[s] = Y <;> simp [e]
        generalize hXe : L[s] = X at *
        have hrow : ∀ i, i ≤ O.length → rowM (difB L s) (matM (difB L) O.length s) i < k := fun i h => by
          have := rowM_lt (d := difB L s) (M := matM (difB L) O.length s) (m := O.length) (by rw [hP]; exact hMs) i h
          rwa [hP] at this
        generalize matM (difB L) O.length s = M at *
        have hs : True := trivial
        repeat' first | (with_reducible first | refine q01 ?_ | refine q11 ?_ | refine q12 ?_ | refine q14 ?_) | (with_reducible refine DT_regionE [0,1,2,3,4,5,6,7,8,9,10,11,12,13,14,22,32,33,34,42,43,44,45,53,54,55,66] ?_; simp -dsimp [hR1, hR2, hR3, hls, hsL, hX, hXe, hs]) | (refine DT_cond rfl (fun h => ?_) (fun h => ?_) <;> (try simp only [nrm] at h) <;> (try exact Bool.noConfusion h))
        all_goals try simp -dsimp [hR1, hR2, hR3, hls, hsL, hX, hXe, hs]
        all_goals try clear hs
        refine DT_loop (ι := { i : Nat // i ≤ O.length }) (fun p => ⟨79, [(6, .one (.ptr 3 0)), (8, .one (.ptr 6 0)), (11, iv ((rowM (difB L s) M p.1 : Nat) : Int)), (12, iv (s : Int)), (13, isv X), (42, .one (.vec 4 0 0 k)), (43, iv (k : Int)), (44, iv (s : Int)), (53, iv (O.length : Int)), (54, iv (p.1 : Int))], [.row ((encNotes n).map .im), .row [.im (rI m)], .vec 1 [] 0 true, .row [.im (.ip [.sl (n.reg.map encIssue), .sl (n.notes.map encNote), .sl ((nums n.reg).map encI), .sl (O.map encI)])], .vec 1 (ims (L.map encL)) 0 false, .vec 0 [] 0 true, .row [.vec 4 0 0 k]]⟩) (fun p => O.length - p.1) ⟨0, by simp⟩ (Weak.of_keep [6,8,11,12,13,42,43,44,53,54] (by simp [rowM])) ?_
        rintro ⟨i, hi⟩
        simp only [iv, isv]
        have hMi := hrow i hi
        by_cases hil : i < O.length
        · have hwi : IntKind.i64.wrap ((i : Int) + 1) = ((i + 1 : Nat) : Int) := i64w (by omega) (by omega)
          have hin : ¬ ((i : Int) < 0) := by omega
          have hmini : min i 64 = i := by omega
          have hxk := hxlt s i hls hil
          have hxor := xor_at (s := s) (i := i) (by omega) (by omega)
          have hor := or_at (s := rowM (difB L s) M i) (i := i) (by omega) (by omega)
          have hQ5 : 2 ^ i < 2 ^ 5 := Nat.pow_lt_pow_right (by omega) (by omega)
          have hrs : rowM (difB L s) M (i + 1) = if difB L s i = true then rowM (difB L s) M i ||| 2 ^ i else rowM (difB L s) M i := rfl
          have hshi : IntKind.i64.wrap ((2 : Int) ^ i) = ((2 ^ i : Nat) : Int) := by
            rw [show ((2 : Int) ^ i) = ((2 ^ i : Nat) : Int) by simp]
            exact (fun (P : Nat) (h : P < 2 ^ 5) => (i64w (by omega) (by omega) : IntKind.i64.wrap (P : Int) = (P : Int))) _ hQ5
          have hdi := hdif i
          generalize hQ : 2 ^ i = Q at *
          generalize rowM (difB L s) M i = R1 at *
          have hyL : s ^^^ Q < L.length := by omega
          have hY : L[s ^^^ Q]? = some L[s ^^^ Q] := List.getElem?_eq_getElem hyL
          have hYl := hLm _ _ hY
          have hd := hdi _ hY
          have hyk : ((s ^^^ Q : Nat) : Int) < (k : Int) := by omega
          generalize hYe : L[s ^^^ Q] = Y at *
          generalize hZ : s ^^^ Q = Z at *
          have c7 := equal_c (G := G) X Y (by omega) (by omega)
          simp at hxor hor
          rw [hd] at hrs
          simp only [isv, bv] at c7
          by_cases hXY : X = Y
          · rw [decide_eq_true hXY] at hrs c7
            rw [if_neg (by simp)] at hrs
            have hs : True := trivial
            repeat' first | (with_reducible first | refine q01 ?_ | refine q04 ?_ | refine q11 ?_ | refine q12 ?_ | refine q14 ?_) | (refine QCall_pure (c7) ?_; try simp -dsimp [hR1, hR2, hR3, hil, hwi, hin, hmini, hb64, hshi, hxor, hxk, hyk, hyL, hY, hYe, hs]) | (refine DT_regionM (id := 16) (nt := 79) 10 [0,1,2,3,4,5,6,7,8,9,10,11,12,13,14,22,32,33,34,42,43,44,45,53,54,55,66] mixed rfl (by kernel_rfl) ?_; simp -dsimp [hR1, hR2, hR3, hil, hwi, hin, hmini, hb64, hshi, hxor, hxk, hyk, hyL, hY, hYe, hs]) | (with_reducible refine DT_regionE [0,1,2,3,4,5,6,7,8,9,10,11,12,13,14,22,32,33,34,42,43,44,45,53,54,55,66] ?_; simp -dsimp [hR1, hR2, hR3, hil, hwi, hin, hmini, hb64, hshi, hxor, hxk, hyk, hyL, hY, hYe, hs]) | (refine DT_cond rfl (fun h => ?_) (fun h => ?_) <;> (try simp only [nrm] at h) <;> (try exact Bool.noConfusion h))
            all_goals try simp -dsimp [hR1, hR2, hR3, hil, hwi, hin, hmini, hb64, hshi, hxor, hxk, hyk, hyL, hY, hYe, hs]
            all_goals try clear hs
            all_goals exact At.round ⟨i + 1, by omega⟩ (by simp only; omega) (Weak.of_keep [6,8,11,12,13,42,43,44,53,54] (by simp [hrs]))
          · rw [decide_eq_false hXY] at hrs c7
            rw [if_pos (by simp)] at hrs
            have hs : True := trivial
            repeat' first | (with_reducible first | refine q01 ?_ | refine q04 ?_ | refine q11 ?_ | refine q12 ?_ | refine q14 ?_) | (refine QCall_pure (c7) ?_; try simp -dsimp [hR1, hR2, hR3, hil, hwi, hin, hmini, hb64, hshi, hxor, hxk, hyk, hyL, hY, hYe, hor, hs]) | (refine DT_regionM (id := 16) (nt := 79) 10 [0,1,2,3,4,5,6,7,8,9,10,11,12,13,14,22,32,33,34,42,43,44,45,53,54,55,66] mixed rfl (by kernel_rfl) ?_; simp -dsimp [hR1, hR2, hR3, hil, hwi, hin, hmini, hb64, hshi, hxor, hxk, hyk, hyL, hY, hYe, hor, hs]) | (with_reducible refine DT_regionE [0,1,2,3,4,5,6,7,8,9,10,11,12,13,14,22,32,33,34,42,43,44,45,53,54,55,66] ?_; simp -dsimp [hR1, hR2, hR3, hil, hwi, hin, hmini, hb64, hshi, hxor, hxk, hyk, hyL, hY, hYe, hor, hs]) | (refine DT_cond rfl (fun h => ?_) (fun h => ?_) <;> (try simp only [nrm] at h) <;> (try exact Bool.noConfusion h))
            all_goals try simp -dsimp [hR1, hR2, hR3, hil, hwi, hin, hmini, hb64, hshi, hxor, hxk, hyk, hyL, hY, hYe, hor, hs]
            all_goals try clear hs
            all_goals exact At.round ⟨i + 1, by omega⟩ (by simp only; omega) (Weak.of_keep [6,8,11,12,13,42,43,44,53,54] (by simp [hrs, hor]))
        · obtain rfl : i = O.length := by omega
          have hs : True := trivial
          repeat' first | (with_reducible first | refine q01 ?_ | refine q03 ?_ | refine q04 ?_ | refine q06 ?_ | refine q11 ?_ | refine q16 ?_) | (with_reducible refine DT_regionE [0,1,2,3,4,5,6,7,8,9,10,11,12,13,14,22,32,33,34,42,43,44,45,53,54,55,66] ?_; simp -dsimp [hR1, hR2, hR3, hil, hws, hs]) | (refine DT_cond rfl (fun h => ?_) (fun h => ?_) <;> (try simp only [nrm] at h) <;> (try exact Bool.noConfusion h))
          all_goals try simp -dsimp [hR1, hR2, hR3, hil, hws, hs]
          all_goals try clear hs
          all_goals exact At.round ⟨s + 1, by omega⟩ (by simp only; omega) (Weak.of_keep [6,8,11,42,43,44] (by simp [hMn]))
      · obtain rfl : s = k := by omega
        generalize matM (difB L) O.length s = M at *
        have c8 := some_c (G := G) O M (by omega)
        simp only [iv, isv] at c8
        have hs : True := trivial
        repeat' first | (with_reducible first | refine q01 ?_ | refine q03 ?_ | refine q06 ?_ | refine q11 ?_ | refine q16 ?_ | refine q17 ?_) | (with_reducible refine At.fn_ret (by simp -dsimp [hR1, hR2, hR3, hls, hs]; exact rfl) ?_) | (refine CallE.pure (c8) ?_; try simp -dsimp [hR1, hR2, hR3, hls, hs]) | (with_reducible refine DT_regionE [0,1,2,3,4,5,6,7,8,9,10,11,12,13,14,22,32,33,34,42,43,44,45,53,54,55,66] ?_; simp -dsimp [hR1, hR2, hR3, hls, hs]) | (refine DT_cond rfl (fun h => ?_) (fun h => ?_) <;> (try simp only [nrm] at h) <;> (try exact Bool.noConfusion h))
        all_goals try simp -dsimp [hR1, hR2, hR3, hls, hs]
        all_goals try clear hs
        all_goals simp
  · rw [show askedR n [] m = .one (.im (.raw (.pointer none))) by unfold askedR; rw [if_neg h0]] at c1
    rw [if_neg h0]
    simp only [isv, iv, List.map_nil] at c1
    have hs : True := trivial
    repeat' first | (with_reducible first | refine q01 ?_ | refine q02 ?_ | refine q11 ?_ | refine q17 ?_) | (with_reducible refine At.fn_ret (by simp -dsimp [h0, hs]; exact rfl) ?_) | (refine CallE.pure (c1) ?_; try simp -dsimp [h0, hs]) | (with_reducible refine DT_regionE [0,1,2,3,4,5,6,7,8,9,10,11,12,13,14,22,32,33,34,42,43,44,45,53,54,55,66] ?_; simp -dsimp [h0, hs]) | (refine DT_cond rfl (fun h => ?_) (fun h => ?_) <;> (try simp only [nrm] at h) <;> (try exact Bool.noConfusion h))
    all_goals try simp -dsimp [h0, hs]
    all_goals try clear hs
    all_goals simp [h0]
end Go.Proofs
namespace Go.Ab
open Go
def kP (p : Int × Int) : List Value := [.int .i64 p.1, .int .i64 p.2]
def encPS (l : List (Int × Int)) : List (List Value × List DC) := l.map fun p => (kP p, [.im (rB true)])
def pput (p : Int × Int) (l : List (Int × Int)) : List (Int × Int) := if p ∈ l then l else l ++ [p]
theorem mem_pput (p q : Int × Int) (l : List (Int × Int)) : q ∈ pput p l ↔ q ∈ l ∨ q = p := by
  unfold pput
  split
  · exact ⟨.inl, fun h => h.elim id fun e => e ▸ ‹_›⟩
  · simp
theorem beqs_p (a b : Int) (p : Int × Int) : beqs [.int .i64 a, .int .i64 b] (kP p) = decide (p = (a, b)) := by
  obtain ⟨c, d⟩ := p
  simp only [kP, beqs, Bool.and_true]
  rw [Bool.eq_iff_iff]
  simp only [Bool.and_eq_true, beq_iff_eq, decide_eq_true_eq, Prod.mk.injEq]
  exact ⟨fun h => ⟨h.1.symm, h.2.symm⟩, fun h => ⟨h.1.symm, h.2.symm⟩⟩
@[simp] theorem mget_P (l : List (Int × Int)) (a b : Int) : mget [.int .i64 a, .int .i64 b] (encPS l) [.im (.raw (.bool false))] = [.im (.raw (.bool (decide ((a, b) ∈ l))))] := by
  induction l with
  | nil => rfl
  | cons p r ih =>
    have e : encPS (p :: r) = (kP p, [.im (rB true)]) :: encPS r := rfl
    rw [e]
    simp only [mget, mfind, beqs_p, decide_eq_true_eq] at ih ⊢
    split
    · rename_i h; subst h; simp
    · rename_i h
      rw [ih]
      have : ((a, b) ∈ p :: r) = ((a, b) ∈ r) := propext ⟨fun h' => (List.mem_cons.1 h').resolve_left fun e => h e.symm, List.mem_cons_of_mem _⟩
      simp only [this]
@[simp] theorem mset_P (l : List (Int × Int)) (a b : Int) : mset [.int .i64 a, .int .i64 b] [.im (.raw (.bool true))] (encPS l) = encPS (pput (a, b) l) := by
  have gen : ∀ l : List (Int × Int), ((a, b) ∈ l → mset [.int .i64 a, .int .i64 b] [.im (.raw (.bool true))] (encPS l) = encPS l) ∧ ((a, b) ∉ l → mset [.int .i64 a, .int .i64 b] [.im (.raw (.bool true))] (encPS l) = encPS (l ++ [(a, b)])) := by
    intro l
    induction l with
    | nil => exact ⟨fun h => by simp at h, fun _ => rfl⟩
    | cons p r ih =>
      have e : encPS (p :: r) = (kP p, [.im (rB true)]) :: encPS r := rfl
      rw [e]
      simp only [mset, beqs_p, decide_eq_true_eq]
      constructor
      · intro h
        split
        · rename_i hp; rw [hp]; rfl
        · rename_i hp
          rw [ih.1 ((List.mem_cons.1 h).resolve_left fun e => hp e.symm)]
      · intro h
        rw [if_neg fun e => h (by simp [e]), ih.2 fun e => h (by simp [e])]; rfl
  unfold pput
  split
  · exact (gen l).1 ‹_›
  · exact (gen l).2 ‹_›
@[simp] theorem encPS_len (l : List (Int × Int)) : (encPS l).length = l.length := by simp [encPS]
@[simp] theorem map_fz_P (n : Nat) (objs : List DObj) (l : List (Int × Int)) : ((encPS l).map fun x => (x.1, x.2.map (fz n objs))) = encPS l := by
  simp [encPS, fz, DC.lt]
@[simp] theorem map_rn_P (e : Nat → Nat) (m : List (Int × Int)) : ((encPS m).map fun x => (x.1, rnL e x.2)) = encPS m := by
  simp [encPS, rnL, rnC]
def encPr (p : Int × Int) : List IC := [rI p.1, rI p.2]
def prv (l : List (Int × Int)) : DV := .one (.im (.sl (l.map encPr)))
attribute [simp] encPr prv
end Go.Ab
namespace Go.Proofs
open Go Go.Ab
def bothB (n : Notes) (s w : List Int) (a b : Nat) : Bool := (marksP n.notes).any fun m => frcAt n s w m a && frcAt n s w m b
def clOk (n : Notes) (s w : List Int) (a b : Nat) : Bool := decide (a < b) && bothB n s w a b && (match n.notes[a]?, n.notes[b]? with
  | some x, some y => decide (x.drawing ≠ 0) && decide (x.drawing = y.drawing) && decide (y.letter < x.letter)
  | _, _ => false)
def clRow (n : Notes) (s w : List Int) (a k : Nat) : List (Int × Int) := ((List.range k).filter fun b => clOk n s w a b).map fun b => (numAt n.notes a, numAt n.notes b)
def clTo (n : Notes) (s w : List Int) (k : Nat) : List (Int × Int) := (List.range k).flatMap fun a => clRow n s w a n.notes.length
def clashL (n : Notes) (s w : List Int) : List (Int × Int) := clTo n s w n.notes.length
theorem clTo_succ (n : Notes) (s w : List Int) (k : Nat) : clTo n s w (k + 1) = clTo n s w k ++ clRow n s w k n.notes.length := by
  simp [clTo, List.range_succ, List.flatMap_append]
theorem clRow_succ (n : Notes) (s w : List Int) (a k : Nat) : clRow n s w a (k + 1) = clRow n s w a k ++ (if clOk n s w a k = true then [(numAt n.notes a, numAt n.notes k)] else []) := by
  unfold clRow
  rw [List.range_succ, List.filter_append, List.map_append]
  congr 1
  by_cases h : clOk n s w a k = true <;> simp [h]
theorem clRow_len (n : Notes) (s w : List Int) (a k : Nat) : (clRow n s w a k).length ≤ k := by
  unfold clRow
  rw [List.length_map]
  refine Nat.le_trans (List.length_filter_le _ _) ?_
  simp
theorem clTo_len (n : Notes) (s w : List Int) : ∀ k, (clTo n s w k).length ≤ k * n.notes.length
  | 0 => by simp [clTo]
  | k + 1 => by
    have h1 := clTo_len n s w k
    have h2 := clRow_len n s w k n.notes.length
    rw [clTo_succ, List.length_append, Nat.succ_mul]; omega
def inPairs (n : Notes) (s w : List Int) (M : List Int) (m : Int) (i k : Nat) (a b : Nat) : Prop := a < b ∧ b < n.notes.length ∧ ((∃ m' ∈ M, frcAt n s w m' a = true ∧ frcAt n s w m' b = true) ∨ ((b < i ∨ b = i ∧ a < k) ∧ frcAt n s w m a = true ∧ frcAt n s w m b = true))
def Bspec (n : Notes) (s w : List Int) (M : List Int) (m : Int) (i k : Nat) (B : List (Int × Int)) : Prop := ∀ a b : Nat, ((a : Int), (b : Int)) ∈ B ↔ inPairs n s w M m i k a b
theorem Bspec.start (n : Notes) (s w : List Int) (m : Int) : Bspec n s w [] m 0 0 [] := fun a b => by
  simp [inPairs]
theorem Bspec.mark {n : Notes} {s w : List Int} {M : List Int} {m m' : Int} {B : List (Int × Int)} (h : Bspec n s w M m n.notes.length 0 B) : Bspec n s w (M ++ [m]) m' 0 0 B := fun a b => by
  rw [h a b]
  simp only [inPairs, List.mem_append, List.mem_singleton]
  constructor
  · rintro ⟨h1, h2, h3 | ⟨h3, h4⟩⟩
    · obtain ⟨x, hx, h⟩ := h3
      exact ⟨h1, h2, .inl ⟨x, .inl hx, h⟩⟩
    · exact ⟨h1, h2, .inl ⟨m, .inr rfl, h4⟩⟩
  · rintro ⟨h1, h2, h3 | ⟨h3, h4⟩⟩
    · obtain ⟨x, hx | rfl, hh⟩ := h3
      · exact ⟨h1, h2, .inl ⟨x, hx, hh⟩⟩
      · exact ⟨h1, h2, .inr ⟨.inl h2, hh⟩⟩
    · omega
theorem Bspec.row {n : Notes} {s w : List Int} {M : List Int} {m : Int} {i : Nat} {B : List (Int × Int)} (h : Bspec n s w M m i i B) : Bspec n s w M m (i + 1) 0 B := fun a b => by
  rw [h a b]
  simp only [inPairs]
  refine and_congr_right fun h1 => and_congr_right fun h2 => or_congr_right (and_congr_left fun _ => ?_)
  omega
theorem Bspec.skip {n : Notes} {s w : List Int} {M : List Int} {m : Int} {i k : Nat} {B : List (Int × Int)} (h : Bspec n s w M m i k B) (hf : ¬ (frcAt n s w m i = true ∧ frcAt n s w m k = true)) : Bspec n s w M m i (k + 1) B := fun a b => by
  rw [h a b]
  simp only [inPairs]
  refine and_congr_right fun h1 => and_congr_right fun h2 => or_congr_right ⟨fun h3 => ⟨by omega, h3.2⟩, fun h3 => ⟨?_, h3.2⟩⟩
  rcases h3.1 with h4 | ⟨h4, h5⟩
  · exact .inl h4
  · by_cases e : a = k
    · subst e; subst h4; exact absurd ⟨h3.2.2, h3.2.1⟩ hf
    · exact .inr ⟨h4, by omega⟩
theorem Bspec.put {n : Notes} {s w : List Int} {M : List Int} {m : Int} {i k : Nat} {B : List (Int × Int)} (h : Bspec n s w M m i k B) (hki : k < i) (hi : i < n.notes.length) (hf : frcAt n s w m i = true ∧ frcAt n s w m k = true) : Bspec n s w M m i (k + 1) (pput ((k : Int), (i : Int)) B) := fun a b => by
  rw [mem_pput, h a b]
  simp only [inPairs, Prod.mk.injEq]
  constructor
  · rintro (⟨h1, h2, h3⟩ | ⟨h1, h2⟩)
    · exact ⟨h1, h2, h3.imp id fun h3 => ⟨by omega, h3.2⟩⟩
    · obtain rfl : a = k := by omega
      obtain rfl : b = i := by omega
      exact ⟨hki, hi, .inr ⟨.inr ⟨rfl, by omega⟩, hf.2, hf.1⟩⟩
  · rintro ⟨h1, h2, h3 | ⟨h3, h4⟩⟩
    · exact .inl ⟨h1, h2, .inl h3⟩
    · by_cases e : b = i ∧ a = k
      · obtain ⟨rfl, rfl⟩ := e; exact .inr ⟨rfl, rfl⟩
      · exact .inl ⟨h1, h2, .inr ⟨by omega, h4⟩⟩
theorem Bspec.both {n : Notes} {s w : List Int} {m : Int} {B : List (Int × Int)} (h : Bspec n s w (marksP n.notes) m 0 0 B) {a b : Nat} (hb : b < n.notes.length) : decide (((a : Int), (b : Int)) ∈ B) = (decide (a < b) && bothB n s w a b) := by
  rw [Bool.eq_iff_iff]
  simp only [decide_eq_true_eq, h a b, inPairs, Bool.and_eq_true, bothB, List.any_eq_true]
  constructor
  · rintro ⟨h1, _, h3 | h3⟩
    · exact ⟨h1, h3⟩
    · omega
  · rintro ⟨h1, h3⟩
    exact ⟨h1, hb, .inl h3⟩
end Go.Proofs
namespace Go.Proofs
open Go Go.Ab
variable {G : Nat → Option (List IC)}
end Go.Proofs
namespace Go.Proofs
open Go Go.Ab
variable {G : Nat → Option (List IC)}
theorem cloneNN_c (l : List Note) (hl : l.length < 1000) : DCall Tryz.prog G 62 [.one (.im (.sl (l.map encNote)))] [] (fun d o => ∃ i : Nat × Bool, (i.2 = true → l = []) ∧ d = .one (.vec 1 i.1 0 l.length) ∧ o = [.vec 10 [] 0 true, .vec 10 (ims (l.map encNote)) i.1 i.2]) := by
  refine DCall_intro Tryz.func62 rfl Tryz.ntmps62 (by simp) rfl ?_
  have hs : True := trivial
  repeat' first | (with_reducible first | refine q01 ?_ | refine q02 ?_ | refine q11 ?_ | refine q14 ?_ | refine q17 ?_ | refine And.intro (by omega) ?_) | (with_reducible refine At.fn_ret (by simp -dsimp [hs]; exact rfl) ?_) | (with_reducible refine DT_regionE [0,2,4] ?_; simp -dsimp [hs]) | (refine DT_cond rfl (fun h => ?_) (fun h => ?_) <;> (try simp only [nrm] at h) <;> (try exact Bool.noConfusion h)) | (with_reducible refine imp_At (fun h => ?_); (try simp only [List.map_eq_nil_iff] at h); (try subst h); try simp -dsimp [hs]) | with_reducible refine And.intro ?_ ?_
  all_goals try simp -dsimp [hs]
  all_goals try clear hs
def sgn (x : Note) (v : Int) : Note := { x with signed := v }
def setSg (l : List Note) (i : Nat) (v : Int) : List Note := match l[i]? with
  | some x => l.set i (sgn x v)
  | none => l
theorem setSg_len (l : List Note) (i : Nat) (v : Int) : (setSg l i v).length = l.length := by
  unfold setSg; split <;> simp
def settleI (n : Notes) (a : Int) : Nat := (fidx (fun x => decide (x.number = a)) n.notes).toNat
def settleL (n : Notes) (a : Int) (b : Bool) : List Note := setSg n.notes (settleI n a) (if b = true then 2 else 0)
def settleE (n : Notes) (a : Int) : Int := if notesE n ≠ 0 then notesE n else if a ∈ openL n.notes then 0 else 6
def settleN (n : Notes) (a : Int) (b : Bool) : Notes := if settleE n a = 0 then ⟨n.reg, settleL n a b⟩ else ⟨[], []⟩
theorem open_mem {l : List Note} {a : Int} : a ∈ openL l ↔ ∃ (k : Nat) (x : Note), l[k]? = some x ∧ x.number = a ∧ x.signed = 1 := by
  unfold openL
  simp only [List.mem_map, List.mem_filter, decide_eq_true_eq]
  constructor
  · rintro ⟨x, ⟨h1, h2⟩, h3⟩
    obtain ⟨k, hk⟩ := List.mem_iff_getElem?.1 h1
    exact ⟨k, x, hk, h3, h2⟩
  · rintro ⟨k, x, h1, h2, h3⟩
    exact ⟨x, ⟨List.mem_of_getElem? h1, h3⟩, h2⟩
theorem fidx_num {n : Notes} (hok : allOk n) {k : Nat} {x : Note} (hx : n.notes[k]? = some x) : fidx (fun y => decide (y.number = x.number)) n.notes = k := by
  refine fidx_yes hx (by simp) fun j y hj hy => ?_
  have hnd := nums_nodup hok
  rw [List.nodup_iff_pairwise_ne, List.pairwise_iff_getElem] at hnd
  obtain ⟨hk, hk'⟩ := List.getElem?_eq_some_iff.1 hx
  obtain ⟨hj', hj''⟩ := List.getElem?_eq_some_iff.1 hy
  have := hnd j k (by simpa using hj') (by simpa using hk) hj
  simp only [List.getElem_map, hk', hj''] at this
  simpa using this
theorem settleI_at {n : Notes} (hok : allOk n) {k : Nat} {x : Note} (hx : n.notes[k]? = some x) : settleI n x.number = k := by
  unfold settleI; rw [fidx_num hok hx]; rfl
end Go.Proofs
namespace Go.Proofs
open Go Go.Ab
def regX : List Issue := [
  ⟨10, 1, 1, [⟨20, 2⟩, ⟨30, 1⟩], []⟩, ⟨10, 2, 1, [⟨20, 1⟩, ⟨30, 2⟩, ⟨40, 2⟩], []⟩,
  ⟨20, 1, 1, [⟨30, 3⟩, ⟨50, 1⟩], []⟩,
  ⟨30, 1, 2, [], [⟨150, 100, 200⟩]⟩, ⟨30, 2, 2, [], [⟨150, 120, 200⟩]⟩,
  ⟨40, 1, 2, [], []⟩, ⟨50, 1, 3, [], []⟩]
def noteX : List Note := [
  ⟨101, 100, 2, 30, 2, 5, 999, 0, false, 0⟩, ⟨102, 200, 1, 10, 2, 8, 20, 0, false, 0⟩,
  ⟨103, 300, 2, 0, 0, 10, 12, 101, false, 0⟩, ⟨104, 400, 2, 30, 1, 15, 15, 0, false, 0⟩]
def nX : Notes := ⟨regX, noteX⟩
theorem isort_eq {l r : List Int} (hp : l.Perm r) (hs : r.Pairwise (· ≤ ·)) : isort l = r :=
  List.Perm.eq_of_pairwise (fun a b _ _ h1 h2 => by omega) (isort_sorted l) hs (((List.mergeSort_perm l _)).trans hp)
theorem x_notes : notesE nX = 0 := by decide +kernel
theorem x_open : isort (openL nX.notes) = [102] := by decide +kernel
theorem x_raw : isort (rawM nX.notes) = [1,5,8,10,13,15,16,21,1000] := isort_eq (by decide +kernel) (by decide +kernel)
theorem x_marks : marksP nX.notes = [1,5,8,10,13,15,16,21] := by unfold marksP; rw [x_raw]; decide +kernel
theorem x_str : strP (letF nX [] 30) (marksP nX.notes) = [⟨1, 4, 1⟩, ⟨5, 9, 2⟩, ⟨10, 12, 1⟩, ⟨13, 14, 2⟩, ⟨15, 15, 1⟩, ⟨16, 999, 2⟩] := by rw [x_marks]; decide +kernel
theorem x_asked (m : Int) (h1 : 1 ≤ m) (h2 : m ≤ 999) : askedE nX [] m = 0 := by
  unfold askedE
  rw [if_neg (by rw [x_notes]; decide), if_neg (by decide +kernel), if_pos ⟨h1, h2⟩]
theorem x_nums : nums nX.reg = [10,20,30,40,50] := by decide +kernel
theorem x_drawn (m d : Int) (h1 : 1 ≤ m) (h2 : m ≤ 999) (hd : d ∈ [10,20,30,40,50]) : drawnE nX [] m d = 0 := by
  unfold drawnE
  rw [if_neg (by rw [x_asked m h1 h2]; decide), if_pos (by rw [x_nums]; simpa using hd)]
theorem x_by : (byF nX [] [] 15 30 4).number = 104 := by decide +kernel
theorem x_force15 : inT nX.notes (frcL [] [] 15 nX.notes) 4 = [101,104] := by decide +kernel
theorem x_force11 : inT nX.notes (frcL [] [] 11 nX.notes) 4 = [103] := by decide +kernel
theorem x_let9 : lettersK nX [] 9 = [1,1,2,1,1] := by decide +kernel
theorem x_let9b : lettersK nX [102] 9 = [2,1,2,1,1] := by decide +kernel
theorem x_sure : sureTo nX 10 [102] 2 = [0,1,1,1,1] := by decide +kernel
theorem x_matters : selN [102] (matM (difB (letsL nX 10 [102] 2)) 1 2) 1 = [102] := by decide +kernel
theorem x_settle : settleE nX 102 = 0 := by decide +kernel
end Go.Proofs
namespace Go.Proofs
open Go Go.Ab
def nS : Notes := ⟨regX, settleL nX 102 true⟩
theorem y_check : notesE nS = 0 := by decide +kernel
theorem y_open : isort (openL nS.notes) = [] := by decide +kernel
theorem y_truths : truthsL ([] : List Int) = [[]] := by decide +kernel
theorem y_let : letF nS [] 10 10 = 2 := by decide +kernel
theorem x_truths : truthsL [102] = [[], [102]] := by decide +kernel
theorem x_let1 : letF nX [] 10 10 = 1 := by decide +kernel
theorem x_let2 : letF nX [102] 10 10 = 2 := by decide +kernel
theorem x_str10 : strP (letF nX [102] 10) (marksP nX.notes) = [⟨1, 7, 1⟩, ⟨8, 20, 2⟩, ⟨21, 999, 1⟩] := by rw [x_marks]; decide +kernel
def clE (n : Notes) (s w M : List Int) : List (Int × Int) := (List.range n.notes.length).flatMap fun a => ((List.range n.notes.length).filter fun b => decide (a < b) && (M.any fun m => frcAt n s w m a && frcAt n s w m b) && (match n.notes[a]?, n.notes[b]? with
  | some x, some y => decide (x.drawing ≠ 0) && decide (x.drawing = y.drawing) && decide (y.letter < x.letter)
  | _, _ => false)).map fun b => (numAt n.notes a, numAt n.notes b)
theorem clash_E (n : Notes) (s w : List Int) : clashL n s w = clE n s w (marksP n.notes) := rfl
theorem x_clash : clashL nX [] [] = [(101, 104)] := by rw [clash_E, x_marks]; decide +kernel
theorem x_clB : (fun L => decide ((clashL nX [] L).length = 0)) = fun L => decide ((clE nX [] L [1,5,8,10,13,15,16,21]).length = 0) := by
  funext L; rw [clash_E, x_marks]
theorem x_nums2 : isort (nX.notes.map fun x => x.number) = [101,102,103,104] := isort_eq (by decide +kernel) (by decide +kernel)
theorem x_withdraw : sizesL (fun L => decide ((clashL nX [] L).length = 0)) (isort (nX.notes.map fun x => x.number)) 5 = some [101] := by
  rw [x_clB, x_nums2]; decide +kernel
end Go.Proofs
namespace Go.Proofs
open Go Go.Ab
variable {G : Nat → Option (List IC)}
def u16v (n : Int) : DV := .one (.im (.raw (.int .u16 n)))
def u8V (n : Int) : DV := .one (.im (.raw (.int .u8 n)))
attribute [simp] u16v u8V
theorem sameI3_c (a b : List Int) (ha : a.length < 1000000) (_hb : b.length < 1000000) (objs : List DObj) : DCall Tryz.prog G 25 [isv a, isv b] objs (fun d objs' => d = bv (decide (a = b)) ∧ objs' = objs) := sameInts_c a b ha objs
theorem isX_c (l : List Int) (e : Int) (w : List Int) (hl : l.length < 1000000) (hw : w.length < 1000000) (objs : List DObj) : DCall Tryz.prog G 47 [isv l, iv e, isv w] objs (fun rr objs' => rr = bv (decide (e = 0) && decide (l = w)) ∧ objs' = objs) := by
  refine DCall.frame ?_ (by simp) (by simp) objs
  refine DCall_intro Tryz.func47 rfl Tryz.ntmps47 (by simp) rfl ?_
  try simp only [isv, iv, isv]
  have c1 := sameI3_c (G := G) l w hl hw
  by_cases h0 : e = 0
  · have hs : True := trivial
    repeat' first | (with_reducible first | refine q01 ?_ | refine q11 ?_ | refine q17 ?_) | (with_reducible refine At.fn_ret (by simp -dsimp [h0, hs]; exact rfl) ?_) | (refine CallE.pure (c1) ?_; try simp -dsimp [h0, hs]) | (with_reducible refine DT_regionE [0,1,2,6] ?_; simp -dsimp [h0, hs])
    all_goals try simp -dsimp [h0, hs]
    all_goals try clear hs
    all_goals simp [h0]
  · have hs : True := trivial
    repeat' first | (with_reducible first | refine q01 ?_ | refine q11 ?_ | refine q17 ?_) | (with_reducible refine At.fn_ret (by simp -dsimp [h0, hs]; exact rfl) ?_) | (with_reducible refine DT_regionE [0,1,2,6] ?_; simp -dsimp [h0, hs])
    all_goals try simp -dsimp [h0, hs]
    all_goals try clear hs
    all_goals simp [h0]
theorem machineOf_c (m : Nat) (hm : m < 65536) (objs : List DObj) : DCall Tryz.prog G 14 [u16v (m : Int)] objs (fun rr objs' => rr = iv ((m % 999 + 1 : Nat) : Int) ∧ objs' = objs) := by
  refine DCall.frame ?_ (by simp) (by simp) objs
  refine DCall_intro Tryz.func14 rfl Tryz.ntmps14 (by simp) rfl ?_
  try simp only [iv]
  have hw : IntKind.i64.wrap (m : Int) = m := i64w (by omega) (by omega)
  have ht : (m : Int).tmod 999 = ((m % 999 : Nat) : Int) := by rw [Int.tmod_eq_emod_of_nonneg (by omega)]; omega
  have hw2 : IntKind.i64.wrap (((m % 999 : Nat) : Int) + 1) = ((m % 999 + 1 : Nat) : Int) := i64w (by omega) (by omega)
  generalize m % 999 = q at *
  have hs : True := trivial
  repeat' first | (with_reducible first | refine q01 ?_ | refine q11 ?_ | refine q17 ?_) | (with_reducible refine At.fn_ret (by simp -dsimp [hw, ht, hw2, hs]; exact rfl) ?_) | (with_reducible refine DT_regionE [0,2] ?_; simp -dsimp [hw, ht, hw2, hs])
  all_goals try simp -dsimp [hw, ht, hw2, hs]
  all_goals try clear hs
theorem hasL_c (l : List Int) (n : Int) (hl : l.length < 1000000) (objs : List DObj) : DCall Tryz.prog G 22 [isv l, iv n] objs (fun rr objs' => rr = bv (decide (n ∈ l)) ∧ objs' = objs) := by
  refine DCall.frame ?_ (by simp) (by simp) objs
  refine DCall_intro Tryz.func22 rfl Tryz.ntmps22 (by simp) rfl ?_
  try simp only [isv, iv]
  have hs : True := trivial
  repeat' first | (with_reducible first | refine q01 ?_ | refine q11 ?_ | refine q12 ?_) | (with_reducible refine DT_regionE [0,1,4,6,7,8,9,10,15] ?_; simp -dsimp [hs])
  all_goals try simp -dsimp [hs]
  all_goals try clear hs
  refine DT_loop (ι := { k : Nat // k ≤ l.length ∧ decide (n ∈ l) = decide (n ∈ l.drop k) }) (fun i => ⟨17, [(1, iv n), (7, isv l), (8, iv (l.length : Int)), (9, iv (i.1 : Int))], []⟩) (fun i => l.length - i.1) ⟨0, by simp⟩ (Weak.of_keep [1,7,8,9] (by simp)) ?_
  rintro ⟨i, hi, hno⟩
  simp only [iv, isv]
  by_cases hlt : i < l.length
  · have hw : IntKind.i64.wrap ((i : Int) + 1) = ((i + 1 : Nat) : Int) := i64w (by omega) (by omega)
    rw [List.drop_eq_getElem_cons hlt] at hno
    generalize hx : l[i] = x at *
    have hs : True := trivial
    repeat' first | (with_reducible first | refine q01 ?_ | refine q02 ?_ | refine q04 ?_ | refine q05 ?_ | refine q11 ?_ | refine q12 ?_ | refine q14 ?_ | refine q17 ?_) | (with_reducible refine At.fn_ret (by simp -dsimp [hx, hw, hlt, hs]; exact rfl) ?_) | (with_reducible refine DT_regionE [0,1,4,6,7,8,9,10,15] ?_; simp -dsimp [hx, hw, hlt, hs]) | (refine DT_cond rfl (fun h => ?_) (fun h => ?_) <;> (try simp only [nrm] at h) <;> (try exact Bool.noConfusion h))
    all_goals try simp -dsimp [hx, hw, hlt, hs]
    all_goals try clear hs
    · exact of_decide_eq_true (by rw [hno]; simp [*])
    · exact At.round ⟨i + 1, by omega, by rw [hno, decide_eq_decide, List.mem_cons]; exact or_iff_right (fun e => absurd e.symm (by assumption))⟩ (by simp; omega) (Weak.of_keep [1,7,8,9] (by simp))
  · rw [List.drop_eq_nil_of_le (by omega)] at hno
    have hs : True := trivial
    repeat' first | (with_reducible first | refine q01 ?_ | refine q03 ?_ | refine q06 ?_ | refine q11 ?_ | refine q16 ?_ | refine q17 ?_) | (with_reducible refine At.fn_ret (by simp -dsimp [hlt, hs]; exact rfl) ?_) | (with_reducible refine DT_regionE [0,1,4,6,7,8,9,10,15] ?_; simp -dsimp [hlt, hs]) | (refine DT_cond rfl (fun h => ?_) (fun h => ?_) <;> (try simp only [nrm] at h) <;> (try exact Bool.noConfusion h))
    all_goals try simp -dsimp [hlt, hs]
    all_goals try clear hs
    exact fun hm => by simp [hm] at hno
theorem rising_c (l : List Int) (hl : l.length < 1000000) (hp : l.Pairwise (· < ·)) (objs : List DObj) : DCall Tryz.prog G 18 [isv l] objs (fun rr objs' => rr = bv true ∧ objs' = objs) := by
  refine DCall.frame ?_ (by simp) (by simp) objs
  refine DCall_intro Tryz.func18 rfl Tryz.ntmps18 (by simp) rfl ?_
  try simp only [isv]
  have hs : True := trivial
  repeat' first | (with_reducible first | refine q01 ?_ | refine q11 ?_ | refine q12 ?_) | (with_reducible refine DT_regionE [0,2,3,5,6,7,22] ?_; simp -dsimp [hs])
  all_goals try simp -dsimp [hs]
  all_goals try clear hs
  refine DT_loop (ι := { k : Nat // k ≤ l.length }) (fun i => ⟨24, [(0, isv l), (5, iv (l.length : Int)), (6, iv (i.1 : Int))], []⟩) (fun i => l.length - i.1) ⟨0, by simp⟩ (Weak.of_keep [0,5,6] (by simp)) ?_
  rintro ⟨i, hi⟩
  simp only [iv, isv]
  by_cases hlt : i < l.length
  · have hw : IntKind.i64.wrap ((i : Int) + 1) = ((i + 1 : Nat) : Int) := i64w (by omega) (by omega)
    have hw1 : IntKind.i64.wrap 1 = 1 := i64w (by omega) (by omega)
    cases i with
    | zero =>
      have hs : True := trivial
      repeat' first | (with_reducible first | refine q01 ?_ | refine q04 ?_ | refine q11 ?_ | refine q12 ?_ | refine q14 ?_) | (refine DT_regionM (id := 4) (nt := 24) 14 [0,2,3,5,6,7,22] mixed rfl (by kernel_rfl) ?_; simp -dsimp [hw, hlt, hs]) | (with_reducible refine DT_regionE [0,2,3,5,6,7,22] ?_; simp -dsimp [hw, hlt, hs]) | (refine DT_cond rfl (fun h => ?_) (fun h => ?_) <;> (try simp only [nrm] at h) <;> (try exact Bool.noConfusion h))
      all_goals try simp -dsimp [hw, hlt, hs]
      all_goals try clear hs
      all_goals exact At.round ⟨1, by omega⟩ (by simp; omega) (Weak.of_keep [0,5,6] (by simp [hw1]))
    | succ i =>
      have hlt2 : i < l.length := by omega
      have hw2 : IntKind.i64.wrap (((i + 1 : Nat) : Int) - 1) = (i : Int) := by rw [show ((i + 1 : Nat) : Int) - 1 = i by omega]; exact i64w (by omega) (by omega)
      have hs : l[i] < l[i + 1] := List.pairwise_iff_getElem.1 hp i (i + 1) hlt2 hlt (by omega)
      have hs2 : ¬ l[i + 1] ≤ l[i] := by omega
      have h01 : 0 ≤ (i : Int) + 1 := by omega
      generalize hx : l[i] = x at *
      generalize hy : l[i + 1] = y at *
      have hw3 := hw2
      simp at hw3
      have hw4 := hw
      simp at hw4
      have hs : True := trivial
      repeat' first | (with_reducible first | refine q01 ?_ | refine q03 ?_ | refine q04 ?_ | refine q06 ?_ | refine q11 ?_ | refine q12 ?_ | refine q14 ?_ | refine q16 ?_ | refine q17 ?_) | (with_reducible refine At.fn_ret (by simp -dsimp [hw, hw2, hw3, hlt, hlt2, hx, hy, hs2, h01, hs]; exact rfl) ?_) | (refine DT_regionM (id := 4) (nt := 24) 14 [0,2,3,5,6,7,22] mixed rfl (by kernel_rfl) ?_; simp -dsimp [hw, hw2, hw3, hlt, hlt2, hx, hy, hs2, h01, hs]) | (with_reducible refine DT_regionE [0,2,3,5,6,7,22] ?_; simp -dsimp [hw, hw2, hw3, hlt, hlt2, hx, hy, hs2, h01, hs]) | (refine DT_cond rfl (fun h => ?_) (fun h => ?_) <;> (try simp only [nrm] at h) <;> (try exact Bool.noConfusion h))
      all_goals try simp -dsimp [hw, hw2, hw3, hlt, hlt2, hx, hy, hs2, h01, hs]
      all_goals try clear hs
      all_goals exact At.round ⟨i + 1 + 1, by omega⟩ (by simp; omega) (Weak.of_keep [0,5,6] (by simp [hw4]))
  · have hs : True := trivial
    repeat' first | (with_reducible first | refine q01 ?_ | refine q03 ?_ | refine q06 ?_ | refine q11 ?_ | refine q16 ?_ | refine q17 ?_) | (with_reducible refine At.fn_ret (by simp -dsimp [hlt, hs]; exact rfl) ?_) | (with_reducible refine DT_regionE [0,2,3,5,6,7,22] ?_; simp -dsimp [hlt, hs]) | (refine DT_cond rfl (fun h => ?_) (fun h => ?_) <;> (try simp only [nrm] at h) <;> (try exact Bool.noConfusion h))
    all_goals try simp -dsimp [hlt, hs]
    all_goals try clear hs
theorem nums_ne {l : List Issue} (h : checkR l = 0) : nums l ≠ [] := by
  have hl : listedI l = true := by
    cases hc : listedI l
    · simp [checkR, hc] at h
    · rfl
  simp only [listedI, Bool.and_eq_true, decide_eq_true_eq] at hl
  have h1 := hl.1.1.1.1
  have : ∀ k, 0 < k → k ≤ l.length → numsTo l k ≠ [] := by
    intro k
    induction k with
    | zero => intro h; omega
    | succ k ih =>
      intro _ hk
      simp only [numsTo]
      by_cases e : k = 0
      · subst e
        rw [List.getElem?_eq_getElem (show 0 < l.length by omega)]
        simp
      · intro h
        exact ih (by omega) (by omega) (List.append_eq_nil_iff.1 h).1
  exact this _ (by omega) (Nat.le_refl _)
theorem drawingOf_c (r : List Issue) (b : Nat) (hr : r.length < 1000000) (h0 : nums r ≠ []) (hb : b < 256) (objs : List DObj) : DCall Tryz.prog G 15 [regv r, u8V (b : Int)] objs (fun rr objs' => rr = .tup [iv ((nums r).getD (b % (nums r).length) 0), iv ((b % (nums r).length : Nat) : Int)] ∧ objs' = objs) := by
  refine DCall.frame ?_ (by simp) (by simp) objs
  refine DCall_intro Tryz.func15 rfl Tryz.ntmps15 (by simp) rfl ?_
  try simp only [regv]
  have c1 := numbers_c (G := G) r hr
  generalize nums r = T at *
  have hp : 0 < T.length := by cases T <;> simp_all
  have hw : IntKind.i64.wrap (b : Int) = b := i64w (by omega) (by omega)
  have ht : (b : Int).tmod (T.length : Int) = ((b % T.length : Nat) : Int) := by rw [Int.tmod_eq_emod_of_nonneg (by omega)]; simp
  have hlt : b % T.length < T.length := Nat.mod_lt _ hp
  have hn0 : ¬ (T.length : Int) = 0 := by omega
  have hn1 : ¬ T.length = 0 := by omega
  have hg : T.getD (b % T.length) 0 = T[b % T.length] := by simp [hlt]
  rw [hg]
  generalize b % T.length = q at *
  generalize hx : T[q] = x at *
  have hs : True := trivial
  repeat' first | (with_reducible first | refine q01 ?_ | refine q11 ?_ | refine q17 ?_) | (with_reducible refine At.fn_ret (by simp -dsimp [hw, ht, hlt, hn0, hn1, h0, hx, hs]; exact rfl) ?_) | (refine CallE.pure (c1) ?_; try simp -dsimp [hw, ht, hlt, hn0, hn1, h0, hx, hs]) | (with_reducible refine DT_regionE [0,1,2,4,5,6,7] ?_; simp -dsimp [hw, ht, hlt, hn0, hn1, h0, hx, hs])
  all_goals try simp -dsimp [hw, ht, hlt, hn0, hn1, h0, hx, hs]
  all_goals try clear hs
end Go.Proofs
