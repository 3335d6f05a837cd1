/- Part 19 of the proof whose last text closes the card: laws and walks that hold without conditions beyond those that each theorem names. -/
import Derived.Test.YtmonmfpdckdoiaaGreatDoorA16
import Derived.Test.YtmonmfpdckdoiaaGreatDoorA18
set_option linter.all false
set_option linter.deprecated false
namespace Go.Proofs
open Go Go.Ab
set_option linter.unusedSimpArgs false
variable {G : Nat → Option (List IC)}
def incN (x : Note) : Note := { x with number := IntKind.i64.wrap (x.number + 1) }
/-- The first k Numbers are one more. -/
def incTo (L : List Note) (k : Nat) : List Note := (L.take k).map incN ++ L.drop k
theorem incTo_zero (L : List Note) : incTo L 0 = L := by simp [incTo]
theorem incTo_len {L : List Note} {k : Nat} (h : k ≤ L.length) : (incTo L k).length = L.length := by simp [incTo]; omega
theorem incTo_at {L : List Note} {k : Nat} (h : k < L.length) : (incTo L k)[k]? = some L[k] := by
  unfold incTo
  rw [List.getElem?_append_right (by simp; omega)]
  simp [Nat.min_eq_left (Nat.le_of_lt h), h]
theorem incTo_succ {L : List Note} {k : Nat} (h : k < L.length) : incTo L (k + 1) = (incTo L k).set k (incN L[k]) := by
  unfold incTo
  rw [List.take_succ_eq_append_getElem h, List.map_append, List.map_singleton, List.append_assoc, List.singleton_append]
  rw [List.set_append_right _ _ (by simp; omega)]
  rw [List.length_map, List.length_take, Nat.min_eq_left (Nat.le_of_lt h), Nat.sub_self]
  rw [List.drop_eq_getElem_cons h, List.set_cons_zero]
set_option maxHeartbeats 8000000 in
theorem noteOpen_c (n : Notes) (d m a : Int) (b : Bool) (hG : sheetG G) (hN : noteG G) (hS : SortOk G) (hk : NKind n) (objs : List DObj) : DCall Tryz.prog G 4 [notesv n, iv d, iv m, iv a, bv b] objs (fun rr objs' => rr = bv true ∧ objs' = objs) := by
  refine DCall.frame ?_ (by simp) (by simp) objs
  refine DCall_intro Tryz.func4 rfl Tryz.ntmps4 (by simp) rfl ?_
  try simp only [notesv, iv, iv, iv, bv]
  have c1 := great3_c (G := G) n
  cases hq : smallNB n
  · rw [hq] at c1
    have hs : True := trivial
    repeat' first | (with_reducible first | refine q01 ?_ | refine q02 ?_ | refine q11 ?_ | refine q17 ?_) | (with_reducible refine At.fn_ret (by simp -dsimp [hs]; exact rfl) ?_) | (refine CallE.pure (c1) ?_; try simp -dsimp [hs]) | (with_reducible refine DT_regionE [0, 1, 2, 3, 4, 5, 10, 11, 12, 13, 14, 15, 16, 17, 18, 19, 20, 21, 22, 23, 24, 25, 26, 27, 28, 29, 31, 126, 127, 128] ?_; simp -dsimp [hs]) | (refine DT_cond rfl (fun h => ?_) (fun h => ?_) <;> (try simp only [nrm] at h) <;> (try exact Bool.noConfusion h))
    all_goals try simp -dsimp [hs]
    all_goals try clear hs
  · obtain ⟨hsn, hs⟩ := NSm_of hk hq
    rw [hq] at c1
    have c2 := twin3_c (G := G) n hsn
    have c3 := nPossible_c n d m hG hN hS hs
    have c4 := rPossible_c (G := G) n d m hs
    have c5 := nSure_c n m hG hN hS hs
    have c6 := rSure_c (G := G) n m hs
    have c7 := nMatters_c n m hG hN hS hs
    have c8 := rMatters_c (G := G) n m hs
    have c10 := rSettle_c (G := G) n a b hsn hs
    have c12 := same3_c (G := G) n hsn
    have hO5 : ∀ h : drawnE n [] m d = 0 ∨ askedE n [] m = 0, (isort (openL n.notes)).length ≤ 5 := fun h => by
      have h0 : askedE n [] m = 0 := h.elim (fun h => by
        unfold drawnE at h
        split at h
        · contradiction
        · simpa using ‹¬ askedE n [] m ≠ 0›) id
      rw [isortL]; exact (notes_ok (asked_ok h0).1).2.2.2
    have hP1 : (if drawnE n [] m d = 0 then dedupI (isort ((truthsL (isort (openL n.notes))).map fun t => letF n t d m)) else []).length < 1000000 := by
      split
      · rename_i h
        have h5 := hO5 (.inl h)
        have h6 := dedupI_len (isort ((truthsL (isort (openL n.notes))).map fun t => letF n t d m))
        rw [isortL, List.length_map, truthsL_len] at h6
        have : (2 : Nat) ^ (isort (openL n.notes)).length ≤ 2 ^ 5 := Nat.pow_le_pow_right (by omega) h5
        omega
      · simp
    have hP2 : (if askedE n [] m = 0 then sureTo n m (isort (openL n.notes)) (2 ^ (isort (openL n.notes)).length) else []).length < 1000000 := by
      split
      · rw [sureTo_len]
        have := numsTo_length n.reg n.reg.length
        rw [show numsTo n.reg n.reg.length = nums n.reg from rfl] at this
        have := hs.1.1; omega
      · simp
    have hP3 : (if askedE n [] m = 0 then selN (isort (openL n.notes)) (matM (difB (letsL n m (isort (openL n.notes)) (2 ^ (isort (openL n.notes)).length))) (isort (openL n.notes)).length (2 ^ (isort (openL n.notes)).length)) (isort (openL n.notes)).length else []).length < 1000000 := by
      split
      · rename_i h
        have := hO5 (.inr h)
        have := selN_len (isort (openL n.notes)) (matM (difB (letsL n m (isort (openL n.notes)) (2 ^ (isort (openL n.notes)).length))) (isort (openL n.notes)).length (2 ^ (isort (openL n.notes)).length)) (isort (openL n.notes)).length
        omega
      · simp
    generalize (if drawnE n [] m d = 0 then dedupI (isort ((truthsL (isort (openL n.notes))).map fun t => letF n t d m)) else []) = P1 at *
    generalize (if askedE n [] m = 0 then sureTo n m (isort (openL n.notes)) (2 ^ (isort (openL n.notes)).length) else []) = P2 at *
    generalize (if askedE n [] m = 0 then selN (isort (openL n.notes)) (matM (difB (letsL n m (isort (openL n.notes)) (2 ^ (isort (openL n.notes)).length))) (isort (openL n.notes)).length (2 ^ (isort (openL n.notes)).length)) (isort (openL n.notes)).length else []) = P3 at *
    clear hO5
    generalize hE1 : drawnE n [] m d = E1 at *
    generalize hE2 : askedE n [] m = E2 at *
    have c21 := sameInts_c (G := G) P1 P1 hP1
    have c22 := sameInts_c (G := G) P2 P2 hP2
    have c23 := sameInts_c (G := G) P3 P3 hP3
    by_cases h0 : settleE n a = 0
    · have c9 : DCall Tryz.prog G 26 [notesv n, iv a, bv b] [] (SetP n a b) := nSettleS_c n a b hG hN hS hsn hs h0
      have hN2 : settleN n a b = ⟨n.reg, settleL n a b⟩ := by unfold settleN; rw [if_pos h0]
      have hll : n.notes.length = (settleL n a b).length := (setSg_len _ _ _).symm
      unfold SetP at c9
      rw [hN2, h0] at c10
      have hsn2 : SmallN ⟨n.reg, settleL n a b⟩ := ⟨hsn.1, by show (settleL n a b).length ≤ 16; rw [← hll]; exact hsn.2⟩
      have c13 := same3_c (G := G) ⟨n.reg, settleL n a b⟩ hsn2
      rw [hll] at c9
      generalize settleL n a b = N2 at *
      have hz := incTo_zero N2
      clear hG hN hS
      have hs : True := trivial
      repeat' first | (with_reducible first | refine q01 ?_ | refine q11 ?_ | refine q12 ?_ | refine q14 ?_) | (refine CallE.pure (c1) ?_; try simp -dsimp [hs]) | (refine CallE.pure (c2) ?_; try simp -dsimp [hs]) | (refine CallE.pure (c3) ?_; try simp -dsimp [hs]) | (refine CallE.pure (c4) ?_; try simp -dsimp [hs]) | (refine CallE.pure (c5) ?_; try simp -dsimp [hs]) | (refine CallE.pure (c6) ?_; try simp -dsimp [hs]) | (refine CallE.pure (c7) ?_; try simp -dsimp [hs]) | (refine CallE.pure (c8) ?_; try simp -dsimp [hs]) | (refine CallE.embed_ex [] (c9) ?_ ?_ ?_ ?_ ?_ ?_; (focus (simp [emb]; done)); (focus (simp; done)); (focus (simp; done)); (focus (simp; done)); (focus (refine emb_all ?_; simp [emb, embAll]; done)); intro mm hmm; try simp -dsimp [mergeO, emb, hs]) | (refine CallE.pure (c10) ?_; try simp -dsimp [hs]) | (refine CallE.pure (c21) ?_; try simp -dsimp [hs]) | (refine CallE.pure (c22) ?_; try simp -dsimp [hs]) | (refine CallE.pure (c23) ?_; try simp -dsimp [hs]) | (refine CallE.thaw (c13) ?_ ?_ ?_; (focus (simp; done)); (focus (simp; done)); try simp -dsimp [hs]) | (with_reducible refine DT_regionE [0, 1, 2, 3, 4, 5, 10, 11, 12, 13, 14, 15, 16, 17, 18, 19, 20, 21, 22, 23, 24, 25, 26, 27, 28, 29, 31, 126, 127, 128] ?_; simp -dsimp [hs]) | (refine DT_cond rfl (fun h => ?_) (fun h => ?_) <;> (try simp only [nrm] at h) <;> (try exact Bool.noConfusion h))
      all_goals try simp -dsimp [hs]
      all_goals try clear hs
      obtain ⟨g6, g7, sz7, nl7⟩ := mm
      have hl16 : N2.length ≤ 16 := by have := hsn.2; omega
      refine DT_loop (ι := { i : Nat // i ≤ N2.length }) (fun p => ⟨146, [(5, .one (.ptr 0 0)), (11, .one (.ptr 3 0)), (24, .one (.ptr 18 0)), (28, bv true), (126, iv (N2.length : Int)), (127, iv (p.1 : Int))], [.row [.im (.sl (n.reg.map encIssue)), .im (.sl (n.notes.map encNote))], .vec 0 [] 0 true, .vec 0 [] 0 true, .row [.im (.sl (n.reg.map encIssue)), .im (.sl (n.notes.map encNote))], .row [.im (.sl (n.reg.map encIssue)), .im (.sl (n.notes.map encNote))], .row [.im (rI a)], .vec 0 [] 0 true, .vec 0 [] 0 true, .row [.vec 11 g7 0 n.reg.length, .vec 10 g6 0 N2.length], .vec 10 [] 0 true, .vec 10 (ims ((incTo N2 p.1).map encNote)) g6 false, .vec sz7 (ims (n.reg.map encIssue)) g7 nl7, .vec 0 [] 0 true, .vec 0 [] 0 true, .vec 0 [] 0 true, .row [.vec 11 g7 0 n.reg.length, .vec 10 g6 0 N2.length], .vec 0 [] 0 true, .vec 0 [] 0 true, .row [.vec 11 g7 0 n.reg.length, .vec 10 g6 0 N2.length], .vec 0 [] 0 true, .vec 0 [] 0 true, .row [.im (.sl (n.reg.map encIssue)), .im (.sl (N2.map encNote))]]⟩) (fun p => N2.length - p.1) ⟨0, by simp⟩ (Weak.of_keep [5,11,24,28,126,127] (by simp [hz])) ?_
      rintro ⟨i, hi⟩
      simp only [iv, bv]
      have hil := incTo_len hi
      by_cases hlt : i < N2.length
      · have hw : IntKind.i64.wrap ((i : Int) + 1) = ((i + 1 : Nat) : Int) := i64w (by omega) (by omega)
        have hat := incTo_at hlt
        have hsu := incTo_succ hlt
        generalize hy : N2[i] = y at *
        generalize incTo N2 i = S at *
        have hiS : i < S.length := by omega
        have hat2 : S[i] = y := (List.getElem?_eq_some_iff.1 hat).2
        have hV : ims ((incTo N2 (i + 1)).map encNote) = (ims (S.map encNote)).set i ((encNote (incN y)).map .im) := by rw [hsu, List.map_set, imsSet]
        have hs : True := trivial
        repeat' first | (with_reducible first | refine q01 ?_ | refine q04 ?_ | refine q11 ?_ | refine q12 ?_ | refine q14 ?_) | (with_reducible refine DT_regionE [0, 1, 2, 3, 4, 5, 10, 11, 12, 13, 14, 15, 16, 17, 18, 19, 20, 21, 22, 23, 24, 25, 26, 27, 28, 29, 31, 126, 127, 128] ?_; simp -dsimp [hlt, hw, hat, hat2, hiS, hs]) | (refine DT_cond rfl (fun h => ?_) (fun h => ?_) <;> (try simp only [nrm] at h) <;> (try exact Bool.noConfusion h))
        all_goals try simp -dsimp [hlt, hw, hat, hat2, hiS, hs]
        all_goals try clear hs
        all_goals exact At.round ⟨i + 1, by omega⟩ (by simp only; omega) (Weak.of_keep [5,11,24,28,126,127] (by simp [hV, incN]))
      · obtain rfl : i = N2.length := by omega
        generalize incTo N2 N2.length = S at *
        have hs : True := trivial
        repeat' first | (with_reducible first | refine q01 ?_ | refine q03 ?_ | refine q06 ?_ | refine q11 ?_ | refine q16 ?_ | refine q17 ?_) | (with_reducible refine At.fn_ret (by simp -dsimp [hlt, hs]; exact rfl) ?_) | (refine CallE.pure (c12) ?_; try simp -dsimp [hlt, hs]) | (with_reducible refine DT_regionE [0, 1, 2, 3, 4, 5, 10, 11, 12, 13, 14, 15, 16, 17, 18, 19, 20, 21, 22, 23, 24, 25, 26, 27, 28, 29, 31, 126, 127, 128] ?_; simp -dsimp [hlt, hs]) | (refine DT_cond rfl (fun h => ?_) (fun h => ?_) <;> (try simp only [nrm] at h) <;> (try exact Bool.noConfusion h))
        all_goals try simp -dsimp [hlt, hs]
        all_goals try clear hs
    · have c9 := nSettleE_c n a b hG hN hS hs h0
      have hN2 : settleN n a b = ⟨[], []⟩ := by unfold settleN; rw [if_neg h0]
      rw [hN2] at c10
      have c13 := same3_c (G := G) ⟨[], []⟩ ⟨⟨by simp, by simp⟩, by simp⟩
      generalize settleE n a = E3 at *
      clear hG hN hS
      have hs : True := trivial
      repeat' first | (with_reducible first | refine q01 ?_ | refine q11 ?_ | refine q12 ?_ | refine q14 ?_) | (refine CallE.pure (c1) ?_; try simp -dsimp [hs]) | (refine CallE.pure (c2) ?_; try simp -dsimp [hs]) | (refine CallE.pure (c3) ?_; try simp -dsimp [hs]) | (refine CallE.pure (c4) ?_; try simp -dsimp [hs]) | (refine CallE.pure (c5) ?_; try simp -dsimp [hs]) | (refine CallE.pure (c6) ?_; try simp -dsimp [hs]) | (refine CallE.pure (c7) ?_; try simp -dsimp [hs]) | (refine CallE.pure (c8) ?_; try simp -dsimp [hs]) | (refine CallE.pure (c9) ?_; try simp -dsimp [hs]) | (refine CallE.pure (c10) ?_; try simp -dsimp [hs]) | (refine CallE.pure (c21) ?_; try simp -dsimp [hs]) | (refine CallE.pure (c22) ?_; try simp -dsimp [hs]) | (refine CallE.pure (c23) ?_; try simp -dsimp [hs]) | (refine CallE.pure (c13) ?_; try simp -dsimp [hs]) | (with_reducible refine DT_regionE [0, 1, 2, 3, 4, 5, 10, 11, 12, 13, 14, 15, 16, 17, 18, 19, 20, 21, 22, 23, 24, 25, 26, 27, 28, 29, 31, 126, 127, 128] ?_; simp -dsimp [hs]) | (refine DT_cond rfl (fun h => ?_) (fun h => ?_) <;> (try simp only [nrm] at h) <;> (try exact Bool.noConfusion h))
      all_goals try simp -dsimp [hs]
      all_goals try clear hs
      refine DT_loop (ι := Unit) (fun _ => ⟨146, [(5, .one (.ptr 0 0)), (11, .one (.ptr 3 0)), (28, bv true), (126, iv 0), (127, iv 0)], [.row [.im (.sl (n.reg.map encIssue)), .im (.sl (n.notes.map encNote))], .vec 0 [] 0 true, .vec 0 [] 0 true, .row [.im (.sl (n.reg.map encIssue)), .im (.sl (n.notes.map encNote))]]⟩) (fun _ => 0) () (Weak.of_drop [5,11,28,126,127] 4 (by simp) (by simp) (by simp)) ?_
      rintro ⟨⟩
      simp only [iv, bv]
      have hs : True := trivial
      repeat' first | (with_reducible first | refine q01 ?_ | refine q03 ?_ | refine q06 ?_ | refine q11 ?_ | refine q16 ?_ | refine q17 ?_) | (with_reducible refine At.fn_ret (by simp -dsimp [hs]; exact rfl) ?_) | (refine CallE.pure (c12) ?_; try simp -dsimp [hs]) | (with_reducible refine DT_regionE [0, 1, 2, 3, 4, 5, 10, 11, 12, 13, 14, 15, 16, 17, 18, 19, 20, 21, 22, 23, 24, 25, 26, 27, 28, 29, 31, 126, 127, 128] ?_; simp -dsimp [hs]) | (refine DT_cond rfl (fun h => ?_) (fun h => ?_) <;> (try simp only [nrm] at h) <;> (try exact Bool.noConfusion h))
      all_goals try simp -dsimp [hs]
      all_goals try clear hs
end Go.Proofs
