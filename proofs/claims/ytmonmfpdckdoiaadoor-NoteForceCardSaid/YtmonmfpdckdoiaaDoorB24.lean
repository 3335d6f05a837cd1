/- Part 24 of the proof whose last text closes the card: laws and walks that hold without conditions beyond those that each theorem names. -/
import Derived.Test.YtmonmfpdckdoiaaDoorB22
import Derived.Test.YtmonmfpdckdoiaaDoorB23
set_option linter.all false
set_option linter.deprecated false
namespace Go.Proofs
open Go Go.Ab
set_option linter.unusedSimpArgs false
variable {G : Nat → Option (List IC)}
theorem mostL_drop {l : List Int} {k : Nat} (hlt : k < l.length) (a : Int) (h : mostL l = (l.drop k).foldl max a) : mostL l = (l.drop (k + 1)).foldl max (max a l[k]) := by
  rw [h, List.drop_eq_getElem_cons hlt, List.foldl_cons]
set_option maxHeartbeats 1000000 in
theorem rcheck_c (l : List Issue) (hs : SmallR l) (objs : List DObj) : DCall Tryd.prog G 48 [regv l] objs (fun rr objs' => rr = iv (checkR l) ∧ objs' = objs) := by
  refine DCall.frame ?_ (by simp) (by simp) objs
  refine DCall_intro Tryd.func48 rfl Tryd.ntmps48 (by simp) rfl ?_
  try simp only [regv]
  have c1 := listed_c (G := G) l hs
  cases hL : listedI l
  · rw [hL] at c1
    have hs : True := trivial
    repeat' first | (with_reducible first | refine q01 ?_ | refine q02 ?_ | refine q03 ?_ | refine q04 ?_ | refine q05 ?_ | refine q06 ?_ | refine q07 (by decide) ?_ | refine q08 ?_ | refine q09 ?_ | refine q10 ?_ | refine q11 ?_ | refine q12 ?_ | refine q13 ?_ | refine q14 ?_ | refine q15 ?_ | refine q16 ?_ | refine q17 ?_ | refine And.intro (by omega) ?_) | (with_reducible refine At.fn_ret (by simp -dsimp [hs]; exact rfl) ?_) | (with_reducible refine At.fn_end (by simp -dsimp [hs]; exact rfl) ?_) | (refine CallE.pure (c1) ?_; try simp -dsimp [hs]) | (with_reducible refine DT_regionE [0, 1, 2, 3, 4, 5, 8, 14, 23, 28] ?_; simp -dsimp [hs]) | (refine DT_cond rfl (fun h => ?_) (fun h => ?_) <;> (try simp only [nrm] at h) <;> (try exact Bool.noConfusion h)) | (with_reducible refine GStop_split ?_ ?_ <;> intro h <;> have h0 := h <;> (try simp only [nrm] at h) <;> (try exact Bool.noConfusion h) <;> have h2 := h <;> (try simp at h2) <;> (replace hs := And.intro h0 (And.intro h (And.intro h2 hs))) <;> simp -dsimp [h0, h, h2, hs]) | (with_reducible refine imp_At (fun h => ?_); (try simp only [List.map_eq_nil_iff] at h); (try subst h); try simp -dsimp [hs]) | with_reducible refine And.intro ?_ ?_
    all_goals try simp -dsimp [hs]
    all_goals try clear hs
    simp [checkR, hL]
  · rw [hL] at c1
    have c2 := rdepths_c (G := G) l hL
    have hlen : (depthsL l).length ≤ 80 := by
      have := numsTo_length l l.length
      have := hs.1
      simp only [depthsL, List.length_map, nums]; omega
    have hE : checkR l = if mostL (depthsL l) > (depthsL l).length then 21 else if mostL (depthsL l) > 6 then 20 else 0 := by simp [checkR, hL]
    generalize depthsL l = D at c2 hE hlen
    have hs : True := trivial
    repeat' first | (with_reducible first | refine q01 ?_ | refine q02 ?_ | refine q03 ?_ | refine q04 ?_ | refine q05 ?_ | refine q06 ?_ | refine q07 (by decide) ?_ | refine q08 ?_ | refine q09 ?_ | refine q10 ?_ | refine q11 ?_ | refine q12 ?_ | refine q13 ?_ | refine q14 ?_ | refine q15 ?_ | refine q16 ?_ | refine q17 ?_ | refine And.intro (by omega) ?_) | (with_reducible refine At.fn_ret (by simp -dsimp [hs]; exact rfl) ?_) | (with_reducible refine At.fn_end (by simp -dsimp [hs]; exact rfl) ?_) | (refine CallE.pure (c1) ?_; try simp -dsimp [hs]) | (refine CallE.pure (c2) ?_; try simp -dsimp [hs]) | (with_reducible refine DT_regionE [0, 1, 2, 3, 4, 5, 8, 14, 23, 28] ?_; simp -dsimp [hs]) | (refine DT_cond rfl (fun h => ?_) (fun h => ?_) <;> (try simp only [nrm] at h) <;> (try exact Bool.noConfusion h)) | (with_reducible refine GStop_split ?_ ?_ <;> intro h <;> have h0 := h <;> (try simp only [nrm] at h) <;> (try exact Bool.noConfusion h) <;> have h2 := h <;> (try simp at h2) <;> (replace hs := And.intro h0 (And.intro h (And.intro h2 hs))) <;> simp -dsimp [h0, h, h2, hs]) | (with_reducible refine imp_At (fun h => ?_); (try simp only [List.map_eq_nil_iff] at h); (try subst h); try simp -dsimp [hs]) | with_reducible refine And.intro ?_ ?_
    all_goals try simp -dsimp [hs]
    all_goals try clear hs
    refine DT_loop (ι := { p : Nat × Int // p.1 ≤ D.length ∧ mostL D = (D.drop p.1).foldl max p.2 }) (fun p => ⟨31, [(1, .one (.ptr 0 0)), (2, iv 0), (3, isv D), (4, iv p.1.2), (5, iv (p.1.1 : Int))], [.row [.im (.sl (l.map encIssue))]]⟩) (fun p => D.length - p.1.1) ⟨(0, 0), by simp [mostL]⟩ (Weak.of_keep [1,2,3,4,5] (by simp)) ?_
    rintro ⟨⟨k, a⟩, hk, ha⟩
    simp only at hk ha
    simp only [iv, isv]
    by_cases hlt : k < D.length
    · have hx : D[k]? = some D[k] := by simp [hlt]
      have hw : IntKind.i64.wrap ((k : Int) + 1) = ((k + 1 : Nat) : Int) := i64w (by omega) (by omega)
      have hs : True := trivial
      repeat' first | (with_reducible first | refine q01 ?_ | refine q02 ?_ | refine q03 ?_ | refine q04 ?_ | refine q05 ?_ | refine q06 ?_ | refine q07 (by decide) ?_ | refine q08 ?_ | refine q09 ?_ | refine q10 ?_ | refine q11 ?_ | refine q12 ?_ | refine q13 ?_ | refine q14 ?_ | refine q15 ?_ | refine q16 ?_ | refine q17 ?_ | refine And.intro (by omega) ?_) | (with_reducible refine At.fn_ret (by simp -dsimp [hx, hw, hlt, hs]; exact rfl) ?_) | (with_reducible refine At.fn_end (by simp -dsimp [hx, hw, hlt, hs]; exact rfl) ?_) | (with_reducible refine DT_regionE [0, 1, 2, 3, 4, 5, 8, 14, 23, 28] ?_; simp -dsimp [hx, hw, hlt, hs]) | (refine DT_cond rfl (fun h => ?_) (fun h => ?_) <;> (try simp only [nrm] at h) <;> (try exact Bool.noConfusion h)) | (with_reducible refine GStop_split ?_ ?_ <;> intro h <;> have h0 := h <;> (try simp only [nrm] at h) <;> (try exact Bool.noConfusion h) <;> have h2 := h <;> (try simp at h2) <;> (replace hs := And.intro h0 (And.intro h (And.intro h2 hs))) <;> simp -dsimp [h0, h, h2, hx, hw, hlt, hs]) | (with_reducible refine imp_At (fun h => ?_); (try simp only [List.map_eq_nil_iff] at h); (try subst h); try simp -dsimp [hx, hw, hlt, hs]) | with_reducible refine And.intro ?_ ?_
      all_goals try simp -dsimp [hx, hw, hlt, hs]
      all_goals try clear hs
      exact At.round ⟨(k + 1, max a D[k]), by omega, mostL_drop hlt a ha⟩ (by simp; omega) (Weak.of_keep [1,2,3,4,5] (by simp))
    · have ha' : mostL D = a := by rw [ha, List.drop_eq_nil_of_le (by omega)]; rfl
      rw [ha'] at hE
      have hs : True := trivial
      repeat' first | (with_reducible first | refine q01 ?_ | refine q02 ?_ | refine q03 ?_ | refine q04 ?_ | refine q05 ?_ | refine q06 ?_ | refine q07 (by decide) ?_ | refine q08 ?_ | refine q09 ?_ | refine q10 ?_ | refine q11 ?_ | refine q12 ?_ | refine q13 ?_ | refine q14 ?_ | refine q15 ?_ | refine q16 ?_ | refine q17 ?_ | refine And.intro (by omega) ?_) | (with_reducible refine At.fn_ret (by simp -dsimp [hlt, hs]; exact rfl) ?_) | (with_reducible refine At.fn_end (by simp -dsimp [hlt, hs]; exact rfl) ?_) | (with_reducible refine DT_regionE [0, 1, 2, 3, 4, 5, 8, 14, 23, 28] ?_; simp -dsimp [hlt, hs]) | (refine DT_cond rfl (fun h => ?_) (fun h => ?_) <;> (try simp only [nrm] at h) <;> (try exact Bool.noConfusion h)) | (with_reducible refine GStop_split ?_ ?_ <;> intro h <;> have h0 := h <;> (try simp only [nrm] at h) <;> (try exact Bool.noConfusion h) <;> have h2 := h <;> (try simp at h2) <;> (replace hs := And.intro h0 (And.intro h (And.intro h2 hs))) <;> simp -dsimp [h0, h, h2, hlt, hs]) | (with_reducible refine imp_At (fun h => ?_); (try simp only [List.map_eq_nil_iff] at h); (try subst h); try simp -dsimp [hlt, hs]) | with_reducible refine And.intro ?_ ?_
      all_goals try simp -dsimp [hlt, hs]
      all_goals try clear hs
      all_goals rw [hE]
      · rw [if_pos (by omega)]
      · rw [if_neg (by omega), if_pos (by omega)]
      · rw [if_neg (by omega), if_neg (by omega)]
def lastOf (l : List Issue) (d : Int) : Int := l.foldl (fun n x => if x.drawing = d then max n x.letter else n) 0
theorem lastOf_c (l : List Issue) (d : Int) (hl : l.length < 1000000) (objs : List DObj) : DCall Tryd.prog G 123 [regv l, iv d] objs (fun rr objs' => rr = iv (lastOf l d) ∧ objs' = objs) := by
  refine DCall.frame ?_ (by simp) (by simp) objs
  refine DCall_intro Tryd.func123 rfl Tryd.ntmps123 (by simp) rfl ?_
  try simp only [regv, iv]
  have hs : True := trivial
  repeat' first | (with_reducible first | refine q01 ?_ | refine q02 ?_ | refine q03 ?_ | refine q04 ?_ | refine q05 ?_ | refine q06 ?_ | refine q07 (by decide) ?_ | refine q08 ?_ | refine q09 ?_ | refine q10 ?_ | refine q11 ?_ | refine q12 ?_ | refine q13 ?_ | refine q14 ?_ | refine q15 ?_ | refine q16 ?_ | refine q17 ?_ | refine And.intro (by omega) ?_) | (with_reducible refine At.fn_ret (by simp -dsimp [hs]; exact rfl) ?_) | (with_reducible refine At.fn_end (by simp -dsimp [hs]; exact rfl) ?_) | (with_reducible refine DT_regionE [0, 1, 2, 4, 5, 6, 11, 21] ?_; simp -dsimp [hs]) | (refine DT_cond rfl (fun h => ?_) (fun h => ?_) <;> (try simp only [nrm] at h) <;> (try exact Bool.noConfusion h)) | (with_reducible refine GStop_split ?_ ?_ <;> intro h <;> have h0 := h <;> (try simp only [nrm] at h) <;> (try exact Bool.noConfusion h) <;> have h2 := h <;> (try simp at h2) <;> (replace hs := And.intro h0 (And.intro h (And.intro h2 hs))) <;> simp -dsimp [h0, h, h2, hs]) | (with_reducible refine imp_At (fun h => ?_); (try simp only [List.map_eq_nil_iff] at h); (try subst h); try simp -dsimp [hs]) | with_reducible refine And.intro ?_ ?_
  all_goals try simp -dsimp [hs]
  all_goals try clear hs
  refine DT_loop (ι := { p : Nat × Int // p.1 ≤ l.length ∧ lastOf l d = (l.drop p.1).foldl (fun n x => if x.drawing = d then max n x.letter else n) p.2 }) (fun p => ⟨31, [(1, iv d), (2, .one (.ptr 0 0)), (5, iv p.1.2), (6, iv (p.1.1 : Int))], [.row [.im (.sl (l.map encIssue))]]⟩) (fun p => l.length - p.1.1) ⟨(0, 0), by simp [lastOf]⟩ (Weak.of_keep [1,2,5,6] (by simp)) ?_
  rintro ⟨⟨k, a⟩, hk, ha⟩
  simp only at hk ha
  simp only [iv]
  by_cases hlt : k < l.length
  · have hx : l[k]? = some l[k] := by simp [hlt]
    have hw : IntKind.i64.wrap ((k : Int) + 1) = ((k + 1 : Nat) : Int) := i64w (by omega) (by omega)
    rw [List.drop_eq_getElem_cons hlt, List.foldl_cons] at ha
    have hs : True := trivial
    repeat' first | (with_reducible first | refine q01 ?_ | refine q02 ?_ | refine q03 ?_ | refine q04 ?_ | refine q05 ?_ | refine q06 ?_ | refine q07 (by decide) ?_ | refine q08 ?_ | refine q09 ?_ | refine q10 ?_ | refine q11 ?_ | refine q12 ?_ | refine q13 ?_ | refine q14 ?_ | refine q15 ?_ | refine q16 ?_ | refine q17 ?_ | refine And.intro (by omega) ?_) | (with_reducible refine At.fn_ret (by simp -dsimp [hx, hw, hlt, hs]; exact rfl) ?_) | (with_reducible refine At.fn_end (by simp -dsimp [hx, hw, hlt, hs]; exact rfl) ?_) | (with_reducible refine DT_regionE [0, 1, 2, 4, 5, 6, 11, 21] ?_; simp -dsimp [hx, hw, hlt, hs]) | (refine DT_cond rfl (fun h => ?_) (fun h => ?_) <;> (try simp only [nrm] at h) <;> (try exact Bool.noConfusion h)) | (with_reducible refine GStop_split ?_ ?_ <;> intro h <;> have h0 := h <;> (try simp only [nrm] at h) <;> (try exact Bool.noConfusion h) <;> have h2 := h <;> (try simp at h2) <;> (replace hs := And.intro h0 (And.intro h (And.intro h2 hs))) <;> simp -dsimp [h0, h, h2, hx, hw, hlt, hs]) | (with_reducible refine imp_At (fun h => ?_); (try simp only [List.map_eq_nil_iff] at h); (try subst h); try simp -dsimp [hx, hw, hlt, hs]) | with_reducible refine And.intro ?_ ?_
    all_goals try simp -dsimp [hx, hw, hlt, hs]
    all_goals try clear hs
    · exact At.round ⟨(k + 1, max a l[k].letter), by omega, by rw [ha, if_pos ‹_›]⟩ (by simp; omega) (Weak.of_keep [1,2,5,6] (by simp))
    · exact At.round ⟨(k + 1, a), by omega, by rw [ha, if_neg ‹_›]⟩ (by simp; omega) (Weak.of_keep [1,2,5,6] (by simp))
  · have ha' : lastOf l d = a := by rw [ha, List.drop_eq_nil_of_le (by omega)]; rfl
    have hs : True := trivial
    repeat' first | (with_reducible first | refine q01 ?_ | refine q02 ?_ | refine q03 ?_ | refine q04 ?_ | refine q05 ?_ | refine q06 ?_ | refine q07 (by decide) ?_ | refine q08 ?_ | refine q09 ?_ | refine q10 ?_ | refine q11 ?_ | refine q12 ?_ | refine q13 ?_ | refine q14 ?_ | refine q15 ?_ | refine q16 ?_ | refine q17 ?_ | refine And.intro (by omega) ?_) | (with_reducible refine At.fn_ret (by simp -dsimp [hlt, hs]; exact rfl) ?_) | (with_reducible refine At.fn_end (by simp -dsimp [hlt, hs]; exact rfl) ?_) | (with_reducible refine DT_regionE [0, 1, 2, 4, 5, 6, 11, 21] ?_; simp -dsimp [hlt, hs]) | (refine DT_cond rfl (fun h => ?_) (fun h => ?_) <;> (try simp only [nrm] at h) <;> (try exact Bool.noConfusion h)) | (with_reducible refine GStop_split ?_ ?_ <;> intro h <;> have h0 := h <;> (try simp only [nrm] at h) <;> (try exact Bool.noConfusion h) <;> have h2 := h <;> (try simp at h2) <;> (replace hs := And.intro h0 (And.intro h (And.intro h2 hs))) <;> simp -dsimp [h0, h, h2, hlt, hs]) | (with_reducible refine imp_At (fun h => ?_); (try simp only [List.map_eq_nil_iff] at h); (try subst h); try simp -dsimp [hlt, hs]) | with_reducible refine And.intro ?_ ?_
    all_goals try simp -dsimp [hlt, hs]
    all_goals try clear hs
    rw [ha']
def letterOk (l : List Issue) (p : Int × Int) : Bool := decide (1 ≤ p.2) && decide (p.2 ≤ lastOf l p.1)
def lettersI (l : List Issue) (lets : List Int) : Bool := decide (lets.length = (nums l).length) && ((nums l).zip lets).all (letterOk l)
theorem letters_c (l : List Issue) (lets : List Int) (hl : l.length < 1000000) (hll : lets.length < 1000000) (objs : List DObj) : DCall Tryd.prog G 89 [regv l, isv lets] objs (fun rr objs' => rr = bv (lettersI l lets) ∧ objs' = objs) := by
  refine DCall.frame ?_ (by simp) (by simp) objs
  refine DCall_intro Tryd.func89 rfl Tryd.ntmps89 (by simp) rfl ?_
  try simp only [regv, isv]
  have c1 := numbers_c (G := G) l (by omega)
  have hE : lettersI l lets = (decide (lets.length = (nums l).length) && ((nums l).zip lets).all (letterOk l)) := rfl
  generalize nums l = ns at c1 hE
  by_cases he : lets.length = ns.length
  · rw [decide_eq_true he, Bool.true_and] at hE
    have he' : (lets.length : Int) = (ns.length : Int) := by omega
    have hs : True := trivial
    repeat' first | (with_reducible first | refine q01 ?_ | refine q02 ?_ | refine q03 ?_ | refine q04 ?_ | refine q05 ?_ | refine q06 ?_ | refine q07 (by decide) ?_ | refine q08 ?_ | refine q09 ?_ | refine q10 ?_ | refine q11 ?_ | refine q12 ?_ | refine q13 ?_ | refine q14 ?_ | refine q15 ?_ | refine q16 ?_ | refine q17 ?_ | refine And.intro (by omega) ?_) | (with_reducible refine At.fn_ret (by simp -dsimp [he', hs]; exact rfl) ?_) | (with_reducible refine At.fn_end (by simp -dsimp [he', hs]; exact rfl) ?_) | (refine CallE.pure (c1) ?_; try simp -dsimp [he', hs]) | (refine DT_regionM (id := 7) (nt := 32) 12 [0, 1, 2, 4, 5, 6, 13, 17, 31] mixed rfl (by kernel_rfl) ?_; simp -dsimp [he', hs]) | (with_reducible refine DT_regionE [0, 1, 2, 4, 5, 6, 13, 17, 31] ?_; simp -dsimp [he', hs]) | (refine DT_cond rfl (fun h => ?_) (fun h => ?_) <;> (try simp only [nrm] at h) <;> (try exact Bool.noConfusion h)) | (with_reducible refine GStop_split ?_ ?_ <;> intro h <;> have h0 := h <;> (try simp only [nrm] at h) <;> (try exact Bool.noConfusion h) <;> have h2 := h <;> (try simp at h2) <;> (replace hs := And.intro h0 (And.intro h (And.intro h2 hs))) <;> simp -dsimp [h0, h, h2, he', hs]) | (with_reducible refine imp_At (fun h => ?_); (try simp only [List.map_eq_nil_iff] at h); (try subst h); try simp -dsimp [he', hs]) | with_reducible refine And.intro ?_ ?_
    all_goals try simp -dsimp [he', hs]
    all_goals try clear hs
    refine DT_loop (ι := { k : Nat // k ≤ ns.length ∧ (ns.zip lets).all (letterOk l) = ((ns.zip lets).drop k).all (letterOk l) }) (fun p => ⟨32, [(1, isv lets), (2, .one (.ptr 0 0)), (5, isv ns), (6, iv (p.1 : Int))], [.row [.im (.sl (l.map encIssue))]]⟩) (fun p => ns.length - p.1) ⟨0, by simp⟩ (Weak.of_drop [1,2,5,6] 1 (by simp) (by simp) (by simp)) ?_
    rintro ⟨k, hk, ha⟩
    simp only [iv, isv]
    by_cases hlt : k < ns.length
    · have hx : ns[k]? = some ns[k] := by simp [hlt]
      have hlt2 : k < lets.length := by omega
      have hy : lets[k]? = some lets[k] := by simp [hlt2]
      have hw : IntKind.i64.wrap ((k : Int) + 1) = ((k + 1 : Nat) : Int) := i64w (by omega) (by omega)
      have hz : k < (ns.zip lets).length := by simp; omega
      have hst := all_step hz ha
      rw [List.getElem_zip] at hst
      have c2 := lastOf_c (G := G) l ns[k] hl
      have c3 := within_c (G := G) lets[k] 1 (lastOf l ns[k])
      have hq' : letterOk l (ns[k], lets[k]) = (decide (1 ≤ lets[k]) && decide (lets[k] ≤ lastOf l ns[k])) := rfl
      cases hq : letterOk l (ns[k], lets[k])
      · rw [← hq', hq] at c3
        have hs : True := trivial
        repeat' first | (with_reducible first | refine q01 ?_ | refine q02 ?_ | refine q03 ?_ | refine q04 ?_ | refine q05 ?_ | refine q06 ?_ | refine q07 (by decide) ?_ | refine q08 ?_ | refine q09 ?_ | refine q10 ?_ | refine q11 ?_ | refine q12 ?_ | refine q13 ?_ | refine q14 ?_ | refine q15 ?_ | refine q16 ?_ | refine q17 ?_ | refine And.intro (by omega) ?_) | (with_reducible refine At.fn_ret (by simp -dsimp [hx, hy, hw, hlt, hlt2, hs]; exact rfl) ?_) | (with_reducible refine At.fn_end (by simp -dsimp [hx, hy, hw, hlt, hlt2, hs]; exact rfl) ?_) | (refine QCall_pure (c2) ?_; try simp -dsimp [hx, hy, hw, hlt, hlt2, hs]) | (refine QCall_pure (c3) ?_; try simp -dsimp [hx, hy, hw, hlt, hlt2, hs]) | (refine DT_regionM (id := 7) (nt := 32) 12 [0, 1, 2, 4, 5, 6, 13, 17, 31] mixed rfl (by kernel_rfl) ?_; simp -dsimp [hx, hy, hw, hlt, hlt2, hs]) | (with_reducible refine DT_regionE [0, 1, 2, 4, 5, 6, 13, 17, 31] ?_; simp -dsimp [hx, hy, hw, hlt, hlt2, hs]) | (refine DT_cond rfl (fun h => ?_) (fun h => ?_) <;> (try simp only [nrm] at h) <;> (try exact Bool.noConfusion h)) | (with_reducible refine GStop_split ?_ ?_ <;> intro h <;> have h0 := h <;> (try simp only [nrm] at h) <;> (try exact Bool.noConfusion h) <;> have h2 := h <;> (try simp at h2) <;> (replace hs := And.intro h0 (And.intro h (And.intro h2 hs))) <;> simp -dsimp [h0, h, h2, hx, hy, hw, hlt, hlt2, hs]) | (with_reducible refine imp_At (fun h => ?_); (try simp only [List.map_eq_nil_iff] at h); (try subst h); try simp -dsimp [hx, hy, hw, hlt, hlt2, hs]) | with_reducible refine And.intro ?_ ?_
        all_goals try simp -dsimp [hx, hy, hw, hlt, hlt2, hs]
        all_goals try clear hs
        rw [hE, false_step hst (by rw [hq]; exact Bool.false_ne_true)]
      · rw [← hq', hq] at c3
        have hs : True := trivial
        repeat' first | (with_reducible first | refine q01 ?_ | refine q02 ?_ | refine q03 ?_ | refine q04 ?_ | refine q05 ?_ | refine q06 ?_ | refine q07 (by decide) ?_ | refine q08 ?_ | refine q09 ?_ | refine q10 ?_ | refine q11 ?_ | refine q12 ?_ | refine q13 ?_ | refine q14 ?_ | refine q15 ?_ | refine q16 ?_ | refine q17 ?_ | refine And.intro (by omega) ?_) | (with_reducible refine At.fn_ret (by simp -dsimp [hx, hy, hw, hlt, hlt2, hs]; exact rfl) ?_) | (with_reducible refine At.fn_end (by simp -dsimp [hx, hy, hw, hlt, hlt2, hs]; exact rfl) ?_) | (refine QCall_pure (c2) ?_; try simp -dsimp [hx, hy, hw, hlt, hlt2, hs]) | (refine QCall_pure (c3) ?_; try simp -dsimp [hx, hy, hw, hlt, hlt2, hs]) | (refine DT_regionM (id := 7) (nt := 32) 12 [0, 1, 2, 4, 5, 6, 13, 17, 31] mixed rfl (by kernel_rfl) ?_; simp -dsimp [hx, hy, hw, hlt, hlt2, hs]) | (with_reducible refine DT_regionE [0, 1, 2, 4, 5, 6, 13, 17, 31] ?_; simp -dsimp [hx, hy, hw, hlt, hlt2, hs]) | (refine DT_cond rfl (fun h => ?_) (fun h => ?_) <;> (try simp only [nrm] at h) <;> (try exact Bool.noConfusion h)) | (with_reducible refine GStop_split ?_ ?_ <;> intro h <;> have h0 := h <;> (try simp only [nrm] at h) <;> (try exact Bool.noConfusion h) <;> have h2 := h <;> (try simp at h2) <;> (replace hs := And.intro h0 (And.intro h (And.intro h2 hs))) <;> simp -dsimp [h0, h, h2, hx, hy, hw, hlt, hlt2, hs]) | (with_reducible refine imp_At (fun h => ?_); (try simp only [List.map_eq_nil_iff] at h); (try subst h); try simp -dsimp [hx, hy, hw, hlt, hlt2, hs]) | with_reducible refine And.intro ?_ ?_
        all_goals try simp -dsimp [hx, hy, hw, hlt, hlt2, hs]
        all_goals try clear hs
        exact At.round ⟨k + 1, by omega, eq_of_step hst hq⟩ (by simp; omega) (Weak.of_keep [1,2,5,6] (by simp))
    · have h1 : (ns.zip lets).all (letterOk l) = true := by rw [ha, List.drop_eq_nil_of_le (by simp; omega)]; rfl
      have hs : True := trivial
      repeat' first | (with_reducible first | refine q01 ?_ | refine q02 ?_ | refine q03 ?_ | refine q04 ?_ | refine q05 ?_ | refine q06 ?_ | refine q07 (by decide) ?_ | refine q08 ?_ | refine q09 ?_ | refine q10 ?_ | refine q11 ?_ | refine q12 ?_ | refine q13 ?_ | refine q14 ?_ | refine q15 ?_ | refine q16 ?_ | refine q17 ?_ | refine And.intro (by omega) ?_) | (with_reducible refine At.fn_ret (by simp -dsimp [hlt, hs]; exact rfl) ?_) | (with_reducible refine At.fn_end (by simp -dsimp [hlt, hs]; exact rfl) ?_) | (refine DT_regionM (id := 7) (nt := 32) 12 [0, 1, 2, 4, 5, 6, 13, 17, 31] mixed rfl (by kernel_rfl) ?_; simp -dsimp [hlt, hs]) | (with_reducible refine DT_regionE [0, 1, 2, 4, 5, 6, 13, 17, 31] ?_; simp -dsimp [hlt, hs]) | (refine DT_cond rfl (fun h => ?_) (fun h => ?_) <;> (try simp only [nrm] at h) <;> (try exact Bool.noConfusion h)) | (with_reducible refine GStop_split ?_ ?_ <;> intro h <;> have h0 := h <;> (try simp only [nrm] at h) <;> (try exact Bool.noConfusion h) <;> have h2 := h <;> (try simp at h2) <;> (replace hs := And.intro h0 (And.intro h (And.intro h2 hs))) <;> simp -dsimp [h0, h, h2, hlt, hs]) | (with_reducible refine imp_At (fun h => ?_); (try simp only [List.map_eq_nil_iff] at h); (try subst h); try simp -dsimp [hlt, hs]) | with_reducible refine And.intro ?_ ?_
      all_goals try simp -dsimp [hlt, hs]
      all_goals try clear hs
      rw [hE, h1]
  · have he' : ¬ (lets.length : Int) = (ns.length : Int) := by omega
    rw [decide_eq_false he, Bool.false_and] at hE
    have hs : True := trivial
    repeat' first | (with_reducible first | refine q01 ?_ | refine q02 ?_ | refine q03 ?_ | refine q04 ?_ | refine q05 ?_ | refine q06 ?_ | refine q07 (by decide) ?_ | refine q08 ?_ | refine q09 ?_ | refine q10 ?_ | refine q11 ?_ | refine q12 ?_ | refine q13 ?_ | refine q14 ?_ | refine q15 ?_ | refine q16 ?_ | refine q17 ?_ | refine And.intro (by omega) ?_) | (with_reducible refine At.fn_ret (by simp -dsimp [he', hs]; exact rfl) ?_) | (with_reducible refine At.fn_end (by simp -dsimp [he', hs]; exact rfl) ?_) | (refine CallE.pure (c1) ?_; try simp -dsimp [he', hs]) | (refine DT_regionM (id := 7) (nt := 32) 12 [0, 1, 2, 4, 5, 6, 13, 17, 31] mixed rfl (by kernel_rfl) ?_; simp -dsimp [he', hs]) | (with_reducible refine DT_regionE [0, 1, 2, 4, 5, 6, 13, 17, 31] ?_; simp -dsimp [he', hs]) | (refine DT_cond rfl (fun h => ?_) (fun h => ?_) <;> (try simp only [nrm] at h) <;> (try exact Bool.noConfusion h)) | (with_reducible refine GStop_split ?_ ?_ <;> intro h <;> have h0 := h <;> (try simp only [nrm] at h) <;> (try exact Bool.noConfusion h) <;> have h2 := h <;> (try simp at h2) <;> (replace hs := And.intro h0 (And.intro h (And.intro h2 hs))) <;> simp -dsimp [h0, h, h2, he', hs]) | (with_reducible refine imp_At (fun h => ?_); (try simp only [List.map_eq_nil_iff] at h); (try subst h); try simp -dsimp [he', hs]) | with_reducible refine And.intro ?_ ?_
    all_goals try simp -dsimp [he', hs]
    all_goals try clear hs
    rw [hE]
def takeI (l : List Issue) (lets : List Int) (d : Int) : Issue := (findI l d ((lets[(idx (nums l) d).toNat]?).getD 0)).getD zIssue
theorem taken_c (l : List Issue) (lets : List Int) (d : Int) (hl : l.length < 1000000) (hd : d ∈ nums l) (hll : lets.length = (nums l).length) (objs : List DObj) : DCall Tryd.prog G 94 [regv l, isv lets, iv d] objs (fun rr objs' => rr = issv (takeI l lets d) ∧ objs' = objs) := by
  refine DCall.frame ?_ (by simp) (by simp) objs
  refine DCall_intro Tryd.func94 rfl Tryd.ntmps94 (by simp) rfl ?_
  try simp only [regv, isv, iv]
  have c1 := numbers_c (G := G) l (by omega)
  have hnl : (nums l).length ≤ l.length := numsTo_length l l.length
  have hE : takeI l lets d = (findI l d ((lets[(idx (nums l) d).toNat]?).getD 0)).getD zIssue := rfl
  generalize nums l = ns at *
  have c2 := index_c (G := G) ns d (by omega)
  have h0 := idx_nonneg hd
  have hi : (idx ns d).toNat < ns.length := by
    obtain ⟨k, hk⟩ := List.mem_iff_getElem?.1 hd
    unfold idx
    cases hh : ns.idxOf? d with
    | none =>
      rw [List.idxOf?, List.findIdx?_eq_none_iff] at hh
      have := hh d hd; simp at this
    | some i =>
      rw [List.idxOf?, List.findIdx?_eq_some_iff_getElem] at hh
      simpa using hh.1
  generalize hidx : idx ns d = z at *
  obtain ⟨k, rfl⟩ : ∃ k : Nat, z = k := ⟨z.toNat, by omega⟩
  simp only [Int.toNat_natCast] at hi hE
  have hkl : k < lets.length := by omega
  have hy : lets[k]? = some lets[k] := by simp [hkl]
  rw [hy, Option.getD_some] at hE
  have c3 := find_c (G := G) l d lets[k] hl
  rw [← hE] at c3
  simp only [refv] at c3
  have hs : True := trivial
  repeat' first | (with_reducible first | refine q01 ?_ | refine q02 ?_ | refine q03 ?_ | refine q04 ?_ | refine q05 ?_ | refine q06 ?_ | refine q07 (by decide) ?_ | refine q08 ?_ | refine q09 ?_ | refine q10 ?_ | refine q11 ?_ | refine q12 ?_ | refine q13 ?_ | refine q14 ?_ | refine q15 ?_ | refine q16 ?_ | refine q17 ?_ | refine And.intro (by omega) ?_) | (with_reducible refine At.fn_ret (by simp -dsimp [hy, hkl, hs]; exact rfl) ?_) | (with_reducible refine At.fn_end (by simp -dsimp [hy, hkl, hs]; exact rfl) ?_) | (refine QCall_pure (c1) ?_; try simp -dsimp [hy, hkl, hs]) | (refine QCall_pure (c2) ?_; try simp -dsimp [hy, hkl, hs]) | (refine QCall_pure (c3) ?_; try simp -dsimp [hy, hkl, hs]) | (refine DT_regionX (id := 1) (nt := 24) 15 [13] [0, 1, 2, 3, 6, 7, 9, 10, 11, 12, 13, 14, 15, 16, 17, 18, 19, 20, 21] [0, 1, 2, 3, 6, 7] mixed rfl (by kernel_rfl) ?_; simp -dsimp [hy, hkl, hs]) | (with_reducible refine DT_regionE [0, 1, 2, 3, 6, 7] ?_; simp -dsimp [hy, hkl, hs]) | (refine DT_cond rfl (fun h => ?_) (fun h => ?_) <;> (try simp only [nrm] at h) <;> (try exact Bool.noConfusion h)) | (with_reducible refine GStop_split ?_ ?_ <;> intro h <;> have h0 := h <;> (try simp only [nrm] at h) <;> (try exact Bool.noConfusion h) <;> have h2 := h <;> (try simp at h2) <;> (replace hs := And.intro h0 (And.intro h (And.intro h2 hs))) <;> simp -dsimp [h0, h, h2, hy, hkl, hs]) | (with_reducible refine imp_At (fun h => ?_); (try simp only [List.map_eq_nil_iff] at h); (try subst h); try simp -dsimp [hy, hkl, hs]) | with_reducible refine And.intro ?_ ?_
  all_goals try simp -dsimp [hy, hkl, hs]
  all_goals try clear hs
end Go.Proofs
namespace Go.Ab
open Go
structure Note where
  number : Int
  day : Int
  signed : Int
  drawing : Int
  letter : Int
  frm : Int
  to : Int
  cancels : Int
  useUp : Bool
  ways : Int
  deriving DecidableEq
structure Notes where
  reg : List Issue
  notes : List Note
  deriving DecidableEq
def encNote (x : Note) : List IC := [rI x.number, rI x.day, .raw (.int .u8 x.signed), rI x.drawing, rI x.letter, rI x.frm, rI x.to, rI x.cancels, rB x.useUp, .raw (.int .u8 x.ways)]
def encNotes (n : Notes) : List IC := [.sl (n.reg.map encIssue), .sl (n.notes.map encNote)]
def notev (x : Note) : DV := .agg ((encNote x).map .im)
def notesv (n : Notes) : DV := .agg ((encNotes n).map .im)
attribute [simp] encNote encNotes notev notesv
theorem encNote_len (x : Note) : (encNote x).length = 10 := rfl
end Go.Ab
namespace Go.Proofs
open Go Go.Ab
set_option linter.unusedSimpArgs false
variable {G : Nat → Option (List IC)}
def nk1 (x : Note) : Bool := (decide (1 ≤ x.number) && decide (x.number ≤ 9999)) && (decide (0 ≤ x.day) && decide (x.day ≤ 14610))
set_option maxHeartbeats 1000000 in
theorem nk1_c (n : Notes) (i : Nat) (x : Note) (hx : n.notes[i]? = some x) (objs : List DObj) : DCall Tryd.prog G 189 [notesv n, iv (i : Int)] objs (fun rr objs' => rr = bv (nk1 x) ∧ objs' = objs) := by
  refine DCall.frame ?_ (by simp) (by simp) objs
  refine DCall_intro Tryd.func189 rfl Tryd.ntmps189 (by simp) rfl ?_
  try simp only [notesv, iv]
  have hi : i < n.notes.length := lt_of_getElem? hx
  have hxe : n.notes[i] = x := (List.getElem?_eq_some_iff.1 hx).2
  have c1 := in_note (G := G) 1 9999 [x.number] (by simp)
  have c2 := in_note (G := G) 0 14610 [x.day] (by simp)
  have hs : True := trivial
  repeat' first | (with_reducible first | refine q01 ?_ | refine q02 ?_ | refine q03 ?_ | refine q04 ?_ | refine q05 ?_ | refine q06 ?_ | refine q07 (by decide) ?_ | refine q08 ?_ | refine q09 ?_ | refine q10 ?_ | refine q11 ?_ | refine q12 ?_ | refine q13 ?_ | refine q14 ?_ | refine q15 ?_ | refine q16 ?_ | refine q17 ?_ | refine And.intro (by omega) ?_) | (with_reducible refine At.fn_ret (by simp -dsimp [hxe, hi, hs]; exact rfl) ?_) | (with_reducible refine At.fn_end (by simp -dsimp [hxe, hi, hs]; exact rfl) ?_) | (refine CallE.thaw (c1) ?_ ?_ ?_; (focus (simp; done)); (focus (simp; done)); try simp -dsimp [hxe, hi, hs]) | (refine CallE.thaw (c2) ?_ ?_ ?_; (focus (simp; done)); (focus (simp; done)); try simp -dsimp [hxe, hi, hs]) | (with_reducible refine DT_regionE [0, 1, 2, 4] ?_; simp -dsimp [hxe, hi, hs]) | (refine DT_cond rfl (fun h => ?_) (fun h => ?_) <;> (try simp only [nrm] at h) <;> (try exact Bool.noConfusion h)) | (with_reducible refine GStop_split ?_ ?_ <;> intro h <;> have h0 := h <;> (try simp only [nrm] at h) <;> (try exact Bool.noConfusion h) <;> have h2 := h <;> (try simp at h2) <;> (replace hs := And.intro h0 (And.intro h (And.intro h2 hs))) <;> simp -dsimp [h0, h, h2, hxe, hi, hs]) | (with_reducible refine imp_At (fun h => ?_); (try simp only [List.map_eq_nil_iff] at h); (try subst h); try simp -dsimp [hxe, hi, hs]) | with_reducible refine And.intro ?_ ?_
  all_goals try simp -dsimp [hxe, hi, hs]
  all_goals try clear hs
  all_goals simp_all [nk1]
  all_goals omega
def nk2 (x : Note) : Bool := decide (x.signed ≤ 2) && decide (x.ways ≤ 3)
theorem nk2_c (n : Notes) (i : Nat) (x : Note) (hx : n.notes[i]? = some x) (objs : List DObj) : DCall Tryd.prog G 190 [notesv n, iv (i : Int)] objs (fun rr objs' => rr = bv (nk2 x) ∧ objs' = objs) := by
  refine DCall.frame ?_ (by simp) (by simp) objs
  refine DCall_intro Tryd.func190 rfl Tryd.ntmps190 (by simp) rfl ?_
  try simp only [notesv, iv]
  have hi : i < n.notes.length := lt_of_getElem? hx
  have hxe : n.notes[i] = x := (List.getElem?_eq_some_iff.1 hx).2
  have hs : True := trivial
  repeat' first | (with_reducible first | refine q01 ?_ | refine q02 ?_ | refine q03 ?_ | refine q04 ?_ | refine q05 ?_ | refine q06 ?_ | refine q07 (by decide) ?_ | refine q08 ?_ | refine q09 ?_ | refine q10 ?_ | refine q11 ?_ | refine q12 ?_ | refine q13 ?_ | refine q14 ?_ | refine q15 ?_ | refine q16 ?_ | refine q17 ?_ | refine And.intro (by omega) ?_) | (with_reducible refine At.fn_ret (by simp -dsimp [hxe, hi, hs]; exact rfl) ?_) | (with_reducible refine At.fn_end (by simp -dsimp [hxe, hi, hs]; exact rfl) ?_) | (with_reducible refine DT_regionE [0, 1, 2, 4] ?_; simp -dsimp [hxe, hi, hs]) | (refine DT_cond rfl (fun h => ?_) (fun h => ?_) <;> (try simp only [nrm] at h) <;> (try exact Bool.noConfusion h)) | (with_reducible refine GStop_split ?_ ?_ <;> intro h <;> have h0 := h <;> (try simp only [nrm] at h) <;> (try exact Bool.noConfusion h) <;> have h2 := h <;> (try simp at h2) <;> (replace hs := And.intro h0 (And.intro h (And.intro h2 hs))) <;> simp -dsimp [h0, h, h2, hxe, hi, hs]) | (with_reducible refine imp_At (fun h => ?_); (try simp only [List.map_eq_nil_iff] at h); (try subst h); try simp -dsimp [hxe, hi, hs]) | with_reducible refine And.intro ?_ ?_
  all_goals try simp -dsimp [hxe, hi, hs]
  all_goals try clear hs
  all_goals (clear hx; simp_all [nk2])
  all_goals omega
def nk3 (x : Note) : Bool := (decide (1 ≤ x.frm) && decide (x.frm ≤ 999)) && (decide (1 ≤ x.to) && decide (x.to ≤ 999)) && decide (x.frm ≤ x.to)
theorem nk3_c (n : Notes) (i : Nat) (x : Note) (hx : n.notes[i]? = some x) (objs : List DObj) : DCall Tryd.prog G 191 [notesv n, iv (i : Int)] objs (fun rr objs' => rr = bv (nk3 x) ∧ objs' = objs) := by
  refine DCall.frame ?_ (by simp) (by simp) objs
  refine DCall_intro Tryd.func191 rfl Tryd.ntmps191 (by simp) rfl ?_
  try simp only [notesv, iv]
  have hi : i < n.notes.length := lt_of_getElem? hx
  have hxe : n.notes[i] = x := (List.getElem?_eq_some_iff.1 hx).2
  have c1 := in_note (G := G) 1 999 [x.frm, x.to] (by simp)
  have hs : True := trivial
  repeat' first | (with_reducible first | refine q01 ?_ | refine q02 ?_ | refine q03 ?_ | refine q04 ?_ | refine q05 ?_ | refine q06 ?_ | refine q07 (by decide) ?_ | refine q08 ?_ | refine q09 ?_ | refine q10 ?_ | refine q11 ?_ | refine q12 ?_ | refine q13 ?_ | refine q14 ?_ | refine q15 ?_ | refine q16 ?_ | refine q17 ?_ | refine And.intro (by omega) ?_) | (with_reducible refine At.fn_ret (by simp -dsimp [hxe, hi, hs]; exact rfl) ?_) | (with_reducible refine At.fn_end (by simp -dsimp [hxe, hi, hs]; exact rfl) ?_) | (refine CallE.thaw (c1) ?_ ?_ ?_; (focus (simp; done)); (focus (simp; done)); try simp -dsimp [hxe, hi, hs]) | (with_reducible refine DT_regionE [0, 1, 2, 4, 5] ?_; simp -dsimp [hxe, hi, hs]) | (refine DT_cond rfl (fun h => ?_) (fun h => ?_) <;> (try simp only [nrm] at h) <;> (try exact Bool.noConfusion h)) | (with_reducible refine GStop_split ?_ ?_ <;> intro h <;> have h0 := h <;> (try simp only [nrm] at h) <;> (try exact Bool.noConfusion h) <;> have h2 := h <;> (try simp at h2) <;> (replace hs := And.intro h0 (And.intro h (And.intro h2 hs))) <;> simp -dsimp [h0, h, h2, hxe, hi, hs]) | (with_reducible refine imp_At (fun h => ?_); (try simp only [List.map_eq_nil_iff] at h); (try subst h); try simp -dsimp [hxe, hi, hs]) | with_reducible refine And.intro ?_ ?_
  all_goals try simp -dsimp [hxe, hi, hs]
  all_goals try clear hs
  all_goals (clear hx c1; simp_all [nk3])
  all_goals omega
end Go.Proofs
namespace Go.Proofs
open Go Go.Ab
set_option linter.unusedSimpArgs false
variable {G : Nat → Option (List IC)}
theorem indexFunc_note (l : List Note) (p : Note → Bool) (k : Nat) (caps : List DC) (objs : List DObj) (hok : CallOk Tryd.prog k) (hf : ∀ x ∈ l, DCall Tryd.prog G k (notev x :: caps.map .one) objs (fun d o => d = bv (p x) ∧ o = objs)) (hl : l.length < 1000000) : DCall Tryd.prog G 201 [.one (.im (.sl (l.map encNote))), .one (.fn (.func k) caps)] objs (fun d o => d = iv (fidx p l) ∧ o = objs) := by
  refine DCall_intro Tryd.func201 rfl Tryd.ntmps201 (by simp) rfl ?_
  have hs : True := trivial
  repeat' first | (with_reducible first | refine q01 ?_ | refine q02 ?_ | refine q03 ?_ | refine q04 ?_ | refine q05 ?_ | refine q06 ?_ | refine q07 (by decide) ?_ | refine q08 ?_ | refine q09 ?_ | refine q10 ?_ | refine q11 ?_ | refine q12 ?_ | refine q13 ?_ | refine q14 ?_ | refine q15 ?_ | refine q16 ?_ | refine q17 ?_ | refine And.intro (by omega) ?_) | (with_reducible refine At.fn_ret (by simp -dsimp [hs]; exact rfl) ?_) | (with_reducible refine At.fn_end (by simp -dsimp [hs]; exact rfl) ?_) | (with_reducible refine DT_regionE [0, 1, 4, 5, 7, 8, 9, 16] ?_; simp -dsimp [hs]) | (refine DT_cond rfl (fun h => ?_) (fun h => ?_) <;> (try simp only [nrm] at h) <;> (try exact Bool.noConfusion h)) | (with_reducible refine GStop_split ?_ ?_ <;> intro h <;> have h0 := h <;> (try simp only [nrm] at h) <;> (try exact Bool.noConfusion h) <;> have h2 := h <;> (try simp at h2) <;> (replace hs := And.intro h0 (And.intro h (And.intro h2 hs))) <;> simp -dsimp [h0, h, h2, hs]) | (with_reducible refine imp_At (fun h => ?_); (try simp only [List.map_eq_nil_iff] at h); (try subst h); try simp -dsimp [hs]) | with_reducible refine And.intro ?_ ?_
  all_goals try simp -dsimp [hs]
  all_goals try clear hs
  refine DT_loop (ι := { k : Nat // k ≤ l.length ∧ ∀ j x, j < k → l[j]? = some x → p x = false }) (fun i => ⟨19, [(0, .one (.im (.sl (l.map encNote)))), (1, .one (.fn (.func k) caps)), (7, iv (l.length : Int)), (8, iv (i.1 : Int))], objs⟩) (fun i => l.length - i.1) ⟨0, by simp⟩ (Weak.of_keep [0,1,7,8] (by simp)) ?_
  rintro ⟨i, hi, hno⟩
  simp only [iv]
  by_cases hlt : i < l.length
  · have hx : l[i]? = some l[i] := by simp [hlt]
    have hw : IntKind.i64.wrap ((i : Int) + 1) = ((i + 1 : Nat) : Int) := i64w (by omega) (by omega)
    have hc := hf l[i] (by simp)
    simp only [notev, encNote, List.map_cons, List.map_nil, bv, rI] at hc
    have hs : True := trivial
    repeat' first | (with_reducible first | refine q01 ?_ | refine q02 ?_ | refine q03 ?_ | refine q04 ?_ | refine q05 ?_ | refine q06 ?_ | refine q07 (by decide) ?_ | refine q08 ?_ | refine q09 ?_ | refine q10 ?_ | refine q11 ?_ | refine q12 ?_ | refine q13 ?_ | refine q14 ?_ | refine q15 ?_ | refine q16 ?_ | refine q17 ?_ | refine And.intro (by omega) ?_) | (with_reducible refine At.fn_ret (by simp -dsimp [hx, hw, hok, hs]; exact rfl) ?_) | (with_reducible refine At.fn_end (by simp -dsimp [hx, hw, hok, hs]; exact rfl) ?_) | (refine CallE.here hc ?_; try simp -dsimp [hx, hw, hok, hs]) | (with_reducible refine DT_regionE [0, 1, 4, 5, 7, 8, 9, 16] ?_; simp -dsimp [hx, hw, hok, hs]) | (refine DT_cond rfl (fun h => ?_) (fun h => ?_) <;> (try simp only [nrm] at h) <;> (try exact Bool.noConfusion h)) | (with_reducible refine GStop_split ?_ ?_ <;> intro h <;> have h0 := h <;> (try simp only [nrm] at h) <;> (try exact Bool.noConfusion h) <;> have h2 := h <;> (try simp at h2) <;> (replace hs := And.intro h0 (And.intro h (And.intro h2 hs))) <;> simp -dsimp [h0, h, h2, hx, hw, hok, hs]) | (with_reducible refine imp_At (fun h => ?_); (try simp only [List.map_eq_nil_iff] at h); (try subst h); try simp -dsimp [hx, hw, hok, hs]) | with_reducible refine And.intro ?_ ?_
    all_goals try simp -dsimp [hx, hw, hok, hs]
    all_goals try clear hs
    all_goals try omega
    · exact (fidx_yes hx (by assumption) hno).symm
    · exact At.round ⟨i + 1, by omega, fun j x hj hjx => by
        by_cases e : j = i
        · subst e; rw [hx] at hjx; cases hjx; assumption
        · exact hno j x (by omega) hjx⟩ (by simp; omega) (Weak.of_keep [0,1,7,8] (by simp))
  · have hs : True := trivial
    repeat' first | (with_reducible first | refine q01 ?_ | refine q02 ?_ | refine q03 ?_ | refine q04 ?_ | refine q05 ?_ | refine q06 ?_ | refine q07 (by decide) ?_ | refine q08 ?_ | refine q09 ?_ | refine q10 ?_ | refine q11 ?_ | refine q12 ?_ | refine q13 ?_ | refine q14 ?_ | refine q15 ?_ | refine q16 ?_ | refine q17 ?_ | refine And.intro (by omega) ?_) | (with_reducible refine At.fn_ret (by simp -dsimp [hs]; exact rfl) ?_) | (with_reducible refine At.fn_end (by simp -dsimp [hs]; exact rfl) ?_) | (with_reducible refine DT_regionE [0, 1, 4, 5, 7, 8, 9, 16] ?_; simp -dsimp [hs]) | (refine DT_cond rfl (fun h => ?_) (fun h => ?_) <;> (try simp only [nrm] at h) <;> (try exact Bool.noConfusion h)) | (with_reducible refine GStop_split ?_ ?_ <;> intro h <;> have h0 := h <;> (try simp only [nrm] at h) <;> (try exact Bool.noConfusion h) <;> have h2 := h <;> (try simp at h2) <;> (replace hs := And.intro h0 (And.intro h (And.intro h2 hs))) <;> simp -dsimp [h0, h, h2, hs]) | (with_reducible refine imp_At (fun h => ?_); (try simp only [List.map_eq_nil_iff] at h); (try subst h); try simp -dsimp [hs]) | with_reducible refine And.intro ?_ ?_
    all_goals try simp -dsimp [hs]
    all_goals try clear hs
    all_goals try omega
    exact (fidx_no fun j x hjx => hno j x (by have := lt_of_getElem? hjx; omega) hjx).symm
theorem containsFunc_note (l : List Note) (p : Note → Bool) (k : Nat) (caps : List DC) (objs : List DObj) (hok : CallOk Tryd.prog k) (hf : ∀ x ∈ l, DCall Tryd.prog G k (notev x :: caps.map .one) objs (fun d o => d = bv (p x) ∧ o = objs)) (hl : l.length < 1000000) : DCall Tryd.prog G 195 [.one (.im (.sl (l.map encNote))), .one (.fn (.func k) caps)] objs (fun d o => d = bv (l.any p) ∧ o = objs) := by
  refine DCall_intro Tryd.func195 rfl Tryd.ntmps195 (by simp) rfl ?_
  have hc := indexFunc_note l p k caps objs hok hf hl
  have hs : True := trivial
  repeat' first | (with_reducible first | refine q01 ?_ | refine q02 ?_ | refine q03 ?_ | refine q04 ?_ | refine q05 ?_ | refine q06 ?_ | refine q07 (by decide) ?_ | refine q08 ?_ | refine q09 ?_ | refine q10 ?_ | refine q11 ?_ | refine q12 ?_ | refine q13 ?_ | refine q14 ?_ | refine q15 ?_ | refine q16 ?_ | refine q17 ?_ | refine And.intro (by omega) ?_) | (with_reducible refine At.fn_ret (by simp -dsimp [hs]; exact rfl) ?_) | (with_reducible refine At.fn_end (by simp -dsimp [hs]; exact rfl) ?_) | (refine CallE.here hc ?_; try simp -dsimp [hs]) | (with_reducible refine DT_regionE [0, 1, 4] ?_; simp -dsimp [hs]) | (refine DT_cond rfl (fun h => ?_) (fun h => ?_) <;> (try simp only [nrm] at h) <;> (try exact Bool.noConfusion h)) | (with_reducible refine GStop_split ?_ ?_ <;> intro h <;> have h0 := h <;> (try simp only [nrm] at h) <;> (try exact Bool.noConfusion h) <;> have h2 := h <;> (try simp at h2) <;> (replace hs := And.intro h0 (And.intro h (And.intro h2 hs))) <;> simp -dsimp [h0, h, h2, hs]) | (with_reducible refine imp_At (fun h => ?_); (try simp only [List.map_eq_nil_iff] at h); (try subst h); try simp -dsimp [hs]) | with_reducible refine And.intro ?_ ?_
  all_goals try simp -dsimp [hs]
  all_goals try clear hs
  simp [fidx_nonneg]
def nk5 (x : Note) : Bool := decide (2 ≤ x.letter) || !x.useUp && decide (x.ways = 0)
theorem nk5_c (n : Notes) (i : Nat) (x : Note) (hx : n.notes[i]? = some x) (objs : List DObj) : DCall Tryd.prog G 193 [notesv n, iv (i : Int)] objs (fun rr objs' => rr = bv (nk5 x) ∧ objs' = objs) := by
  refine DCall.frame ?_ (by simp) (by simp) objs
  refine DCall_intro Tryd.func193 rfl Tryd.ntmps193 (by simp) rfl ?_
  try simp only [notesv, iv]
  have hi : i < n.notes.length := lt_of_getElem? hx
  have hxe : n.notes[i] = x := (List.getElem?_eq_some_iff.1 hx).2
  have hs : True := trivial
  repeat' first | (with_reducible first | refine q01 ?_ | refine q02 ?_ | refine q03 ?_ | refine q04 ?_ | refine q05 ?_ | refine q06 ?_ | refine q07 (by decide) ?_ | refine q08 ?_ | refine q09 ?_ | refine q10 ?_ | refine q11 ?_ | refine q12 ?_ | refine q13 ?_ | refine q14 ?_ | refine q15 ?_ | refine q16 ?_ | refine q17 ?_ | refine And.intro (by omega) ?_) | (with_reducible refine At.fn_ret (by simp -dsimp [hxe, hi, hs]; exact rfl) ?_) | (with_reducible refine At.fn_end (by simp -dsimp [hxe, hi, hs]; exact rfl) ?_) | (with_reducible refine DT_regionE [0, 1, 2, 4, 5] ?_; simp -dsimp [hxe, hi, hs]) | (refine DT_cond rfl (fun h => ?_) (fun h => ?_) <;> (try simp only [nrm] at h) <;> (try exact Bool.noConfusion h)) | (with_reducible refine GStop_split ?_ ?_ <;> intro h <;> have h0 := h <;> (try simp only [nrm] at h) <;> (try exact Bool.noConfusion h) <;> have h2 := h <;> (try simp at h2) <;> (replace hs := And.intro h0 (And.intro h (And.intro h2 hs))) <;> simp -dsimp [h0, h, h2, hxe, hi, hs]) | (with_reducible refine imp_At (fun h => ?_); (try simp only [List.map_eq_nil_iff] at h); (try subst h); try simp -dsimp [hxe, hi, hs]) | with_reducible refine And.intro ?_ ?_
  all_goals try simp -dsimp [hxe, hi, hs]
  all_goals try clear hs
  all_goals (clear hx; simp_all [nk5])
  all_goals omega
theorem nk61_c (n : Notes) (x y : Note) : DCall Tryd.prog G 196 (notev y :: [DC.ptr 1 0].map .one) [.row ((encNotes n).map .im), .row ((encNote x).map .im)] (fun d o => d = bv (decide (y.number = x.cancels)) ∧ o = [.row ((encNotes n).map .im), .row ((encNote x).map .im)]) := by
  refine DCall.drop ?_
  refine DCall_intro Tryd.func196 rfl Tryd.ntmps196 (by simp) rfl ?_
  simp only [notev, encNote, encNotes, rI, rB]
  have hs : True := trivial
  repeat' first | (with_reducible first | refine q01 ?_ | refine q02 ?_ | refine q03 ?_ | refine q04 ?_ | refine q05 ?_ | refine q06 ?_ | refine q07 (by decide) ?_ | refine q08 ?_ | refine q09 ?_ | refine q10 ?_ | refine q11 ?_ | refine q12 ?_ | refine q13 ?_ | refine q14 ?_ | refine q15 ?_ | refine q16 ?_ | refine q17 ?_ | refine And.intro (by omega) ?_) | (with_reducible refine At.fn_ret (by simp -dsimp [hs]; exact rfl) ?_) | (with_reducible refine At.fn_end (by simp -dsimp [hs]; exact rfl) ?_) | (with_reducible refine DT_regionE [0, 1, 2, 3] ?_; simp -dsimp [hs]) | (refine DT_cond rfl (fun h => ?_) (fun h => ?_) <;> (try simp only [nrm] at h) <;> (try exact Bool.noConfusion h)) | (with_reducible refine GStop_split ?_ ?_ <;> intro h <;> have h0 := h <;> (try simp only [nrm] at h) <;> (try exact Bool.noConfusion h) <;> have h2 := h <;> (try simp at h2) <;> (replace hs := And.intro h0 (And.intro h (And.intro h2 hs))) <;> simp -dsimp [h0, h, h2, hs]) | (with_reducible refine imp_At (fun h => ?_); (try simp only [List.map_eq_nil_iff] at h); (try subst h); try simp -dsimp [hs]) | with_reducible refine And.intro ?_ ?_
  all_goals try simp -dsimp [hs]
  all_goals try clear hs
def nk6 (l : List Note) (i : Nat) (x : Note) : Bool := decide (x.cancels = 0) || (l.take i).any fun y => decide (y.number = x.cancels)
theorem nk6_c (n : Notes) (i : Nat) (x : Note) (hx : n.notes[i]? = some x) (hl : n.notes.length < 1000) (objs : List DObj) : DCall Tryd.prog G 194 [notesv n, iv (i : Int)] objs (fun rr objs' => rr = bv (nk6 n.notes i x) ∧ objs' = objs) := by
  refine DCall.frame ?_ (by simp) (by simp) objs
  refine DCall_intro Tryd.func194 rfl Tryd.ntmps194 (by simp) rfl ?_
  try simp only [notesv, iv]
  have hi : i < n.notes.length := lt_of_getElem? hx
  have hxe : n.notes[i] = x := (List.getElem?_eq_some_iff.1 hx).2
  have hlt : (n.notes.take i).length < 1000000 := by simp; omega
  have hil : i ≤ n.notes.length := by omega
  have c1 := containsFunc_note (G := G) (n.notes.take i) (fun y => decide (y.number = x.cancels)) 196 [.ptr 1 0] [.row ((encNotes n).map .im), .row ((encNote x).map .im)] (by simp) (fun y _ => nk61_c n x y) hlt
  simp only [encNote, encNotes, rI, rB, List.map_take, List.map_cons, List.map_nil] at c1
  have hs : True := trivial
  repeat' first | (with_reducible first | refine q01 ?_ | refine q02 ?_ | refine q03 ?_ | refine q04 ?_ | refine q05 ?_ | refine q06 ?_ | refine q07 (by decide) ?_ | refine q08 ?_ | refine q09 ?_ | refine q10 ?_ | refine q11 ?_ | refine q12 ?_ | refine q13 ?_ | refine q14 ?_ | refine q15 ?_ | refine q16 ?_ | refine q17 ?_ | refine And.intro (by omega) ?_) | (with_reducible refine At.fn_ret (by simp -dsimp [hxe, hi, hil, hs]; exact rfl) ?_) | (with_reducible refine At.fn_end (by simp -dsimp [hxe, hi, hil, hs]; exact rfl) ?_) | (refine CallE.here (c1) ?_; try simp -dsimp [hxe, hi, hil, hs]) | (with_reducible refine DT_regionE [0, 1, 2, 4, 5] ?_; simp -dsimp [hxe, hi, hil, hs]) | (refine DT_cond rfl (fun h => ?_) (fun h => ?_) <;> (try simp only [nrm] at h) <;> (try exact Bool.noConfusion h)) | (with_reducible refine GStop_split ?_ ?_ <;> intro h <;> have h0 := h <;> (try simp only [nrm] at h) <;> (try exact Bool.noConfusion h) <;> have h2 := h <;> (try simp at h2) <;> (replace hs := And.intro h0 (And.intro h (And.intro h2 hs))) <;> simp -dsimp [h0, h, h2, hxe, hi, hil, hs]) | (with_reducible refine imp_At (fun h => ?_); (try simp only [List.map_eq_nil_iff] at h); (try subst h); try simp -dsimp [hxe, hi, hil, hs]) | with_reducible refine And.intro ?_ ?_
  all_goals try simp -dsimp [hxe, hi, hil, hs]
  all_goals try clear hs
  all_goals (clear hx c1; simp_all [nk6])
theorem nk71_c (n : Notes) (i : Nat) (x y : Note) (hx : n.notes[i]? = some x) : DCall Tryd.prog G 198 (notev y :: [DC.ptr 0 0, DC.ptr 1 0].map .one) [.row ((encNotes n).map .im), .row [.im (rI (i : Int))]] (fun d o => d = bv (decide (y.number = x.number)) ∧ o = [.row ((encNotes n).map .im), .row [.im (rI (i : Int))]]) := by
  have hi : i < n.notes.length := lt_of_getElem? hx
  have hxe : n.notes[i] = x := (List.getElem?_eq_some_iff.1 hx).2
  refine DCall.drop ?_
  refine DCall_intro Tryd.func198 rfl Tryd.ntmps198 (by simp) rfl ?_
  simp only [notev, encNote, encNotes, rI, rB]
  have hs : True := trivial
  repeat' first | (with_reducible first | refine q01 ?_ | refine q02 ?_ | refine q03 ?_ | refine q04 ?_ | refine q05 ?_ | refine q06 ?_ | refine q07 (by decide) ?_ | refine q08 ?_ | refine q09 ?_ | refine q10 ?_ | refine q11 ?_ | refine q12 ?_ | refine q13 ?_ | refine q14 ?_ | refine q15 ?_ | refine q16 ?_ | refine q17 ?_ | refine And.intro (by omega) ?_) | (with_reducible refine At.fn_ret (by simp -dsimp [hxe, hi, hs]; exact rfl) ?_) | (with_reducible refine At.fn_end (by simp -dsimp [hxe, hi, hs]; exact rfl) ?_) | (refine DT_regionM (id := 1) (nt := 14) 10 [0, 1, 2, 3, 4] mixed rfl (by kernel_rfl) ?_; simp -dsimp [hxe, hi, hs]) | (with_reducible refine DT_regionE [0, 1, 2, 3, 4] ?_; simp -dsimp [hxe, hi, hs]) | (refine DT_cond rfl (fun h => ?_) (fun h => ?_) <;> (try simp only [nrm] at h) <;> (try exact Bool.noConfusion h)) | (with_reducible refine GStop_split ?_ ?_ <;> intro h <;> have h0 := h <;> (try simp only [nrm] at h) <;> (try exact Bool.noConfusion h) <;> have h2 := h <;> (try simp at h2) <;> (replace hs := And.intro h0 (And.intro h (And.intro h2 hs))) <;> simp -dsimp [h0, h, h2, hxe, hi, hs]) | (with_reducible refine imp_At (fun h => ?_); (try simp only [List.map_eq_nil_iff] at h); (try subst h); try simp -dsimp [hxe, hi, hs]) | with_reducible refine And.intro ?_ ?_
  all_goals try simp -dsimp [hxe, hi, hs]
  all_goals try clear hs
def nk7 (l : List Note) (i : Nat) (x : Note) : Bool := !(l.take i).any fun y => decide (y.number = x.number)
theorem nk7_c (n : Notes) (i : Nat) (x : Note) (hx : n.notes[i]? = some x) (hl : n.notes.length < 1000) (objs : List DObj) : DCall Tryd.prog G 197 [notesv n, iv (i : Int)] objs (fun rr objs' => rr = bv (nk7 n.notes i x) ∧ objs' = objs) := by
  refine DCall.frame ?_ (by simp) (by simp) objs
  refine DCall_intro Tryd.func197 rfl Tryd.ntmps197 (by simp) rfl ?_
  try simp only [notesv, iv]
  have hi : i < n.notes.length := lt_of_getElem? hx
  have hlt : (n.notes.take i).length < 1000000 := by simp; omega
  have hil : i ≤ n.notes.length := by omega
  have c1 := containsFunc_note (G := G) (n.notes.take i) (fun y => decide (y.number = x.number)) 198 [.ptr 0 0, .ptr 1 0] [.row ((encNotes n).map .im), .row [.im (rI (i : Int))]] (by simp) (fun y _ => nk71_c n i x y hx) hlt
  simp only [encNote, encNotes, rI, rB, List.map_take, List.map_cons, List.map_nil] at c1
  have hs : True := trivial
  repeat' first | (with_reducible first | refine q01 ?_ | refine q02 ?_ | refine q03 ?_ | refine q04 ?_ | refine q05 ?_ | refine q06 ?_ | refine q07 (by decide) ?_ | refine q08 ?_ | refine q09 ?_ | refine q10 ?_ | refine q11 ?_ | refine q12 ?_ | refine q13 ?_ | refine q14 ?_ | refine q15 ?_ | refine q16 ?_ | refine q17 ?_ | refine And.intro (by omega) ?_) | (with_reducible refine At.fn_ret (by simp -dsimp [hi, hil, hs]; exact rfl) ?_) | (with_reducible refine At.fn_end (by simp -dsimp [hi, hil, hs]; exact rfl) ?_) | (refine CallE.here (c1) ?_; try simp -dsimp [hi, hil, hs]) | (with_reducible refine DT_regionE [0, 1, 2, 3, 4] ?_; simp -dsimp [hi, hil, hs]) | (refine DT_cond rfl (fun h => ?_) (fun h => ?_) <;> (try simp only [nrm] at h) <;> (try exact Bool.noConfusion h)) | (with_reducible refine GStop_split ?_ ?_ <;> intro h <;> have h0 := h <;> (try simp only [nrm] at h) <;> (try exact Bool.noConfusion h) <;> have h2 := h <;> (try simp at h2) <;> (replace hs := And.intro h0 (And.intro h (And.intro h2 hs))) <;> simp -dsimp [h0, h, h2, hi, hil, hs]) | (with_reducible refine imp_At (fun h => ?_); (try simp only [List.map_eq_nil_iff] at h); (try subst h); try simp -dsimp [hi, hil, hs]) | with_reducible refine And.intro ?_ ?_
  all_goals try simp -dsimp [hi, hil, hs]
  all_goals try clear hs
  all_goals (clear hx c1; simp_all [nk7])
def orI : List Int → Int
  | [] => 0
  | x :: r => if x = 0 then orI r else x
theorem or_c (l : List Int) (hl : l.length < 1000000) (objs : List DObj) : DCall Tryd.prog G 200 [isv l] objs (fun rr objs' => rr = iv (orI l) ∧ objs' = objs) := by
  refine DCall.frame ?_ (by simp) (by simp) objs
  refine DCall_intro Tryd.func200 rfl Tryd.ntmps200 (by simp) rfl ?_
  try simp only [isv]
  have hs : True := trivial
  repeat' first | (with_reducible first | refine q01 ?_ | refine q02 ?_ | refine q03 ?_ | refine q04 ?_ | refine q05 ?_ | refine q06 ?_ | refine q07 (by decide) ?_ | refine q08 ?_ | refine q09 ?_ | refine q10 ?_ | refine q11 ?_ | refine q12 ?_ | refine q13 ?_ | refine q14 ?_ | refine q15 ?_ | refine q16 ?_ | refine q17 ?_ | refine And.intro (by omega) ?_) | (with_reducible refine At.fn_ret (by simp -dsimp [hs]; exact rfl) ?_) | (with_reducible refine At.fn_end (by simp -dsimp [hs]; exact rfl) ?_) | (with_reducible refine DT_regionE [0, 2, 3, 5, 6, 7, 8, 9, 14] ?_; simp -dsimp [hs]) | (refine DT_cond rfl (fun h => ?_) (fun h => ?_) <;> (try simp only [nrm] at h) <;> (try exact Bool.noConfusion h)) | (with_reducible refine GStop_split ?_ ?_ <;> intro h <;> have h0 := h <;> (try simp only [nrm] at h) <;> (try exact Bool.noConfusion h) <;> have h2 := h <;> (try simp at h2) <;> (replace hs := And.intro h0 (And.intro h (And.intro h2 hs))) <;> simp -dsimp [h0, h, h2, hs]) | (with_reducible refine imp_At (fun h => ?_); (try simp only [List.map_eq_nil_iff] at h); (try subst h); try simp -dsimp [hs]) | with_reducible refine And.intro ?_ ?_
  all_goals try simp -dsimp [hs]
  all_goals try clear hs
  refine DT_loop (ι := { p : Nat // p ≤ l.length ∧ orI l = orI (l.drop p) }) (fun p => ⟨18, [(3, iv 0), (6, .one (.im (.sl (l.map encI)))), (7, iv (l.length : Int)), (8, iv (p.1 : Int))], []⟩) (fun p => l.length - p.1) ⟨0, by simp⟩ (Weak.of_keep [3,6,7,8] (by simp)) ?_
  rintro ⟨k, hk, hu⟩
  simp only [iv]
  by_cases hlt : k < l.length
  · have hw : IntKind.i64.wrap ((k : Int) + 1) = ((k + 1 : Nat) : Int) := i64w (by omega) (by omega)
    rw [List.drop_eq_getElem_cons hlt, orI] at hu
    generalize hx : l[k] = x at *
    have hs : True := trivial
    repeat' first | (with_reducible first | refine q01 ?_ | refine q02 ?_ | refine q03 ?_ | refine q04 ?_ | refine q05 ?_ | refine q06 ?_ | refine q07 (by decide) ?_ | refine q08 ?_ | refine q09 ?_ | refine q10 ?_ | refine q11 ?_ | refine q12 ?_ | refine q13 ?_ | refine q14 ?_ | refine q15 ?_ | refine q16 ?_ | refine q17 ?_ | refine And.intro (by omega) ?_) | (with_reducible refine At.fn_ret (by simp -dsimp [hx, hw, hlt, hs]; exact rfl) ?_) | (with_reducible refine At.fn_end (by simp -dsimp [hx, hw, hlt, hs]; exact rfl) ?_) | (with_reducible refine DT_regionE [0, 2, 3, 5, 6, 7, 8, 9, 14] ?_; simp -dsimp [hx, hw, hlt, hs]) | (refine DT_cond rfl (fun h => ?_) (fun h => ?_) <;> (try simp only [nrm] at h) <;> (try exact Bool.noConfusion h)) | (with_reducible refine GStop_split ?_ ?_ <;> intro h <;> have h0 := h <;> (try simp only [nrm] at h) <;> (try exact Bool.noConfusion h) <;> have h2 := h <;> (try simp at h2) <;> (replace hs := And.intro h0 (And.intro h (And.intro h2 hs))) <;> simp -dsimp [h0, h, h2, hx, hw, hlt, hs]) | (with_reducible refine imp_At (fun h => ?_); (try simp only [List.map_eq_nil_iff] at h); (try subst h); try simp -dsimp [hx, hw, hlt, hs]) | with_reducible refine And.intro ?_ ?_
    all_goals try simp -dsimp [hx, hw, hlt, hs]
    all_goals try clear hs
    · rw [hu, if_neg (by assumption)]
    · rw [if_pos (by assumption)] at hu
      exact At.round ⟨k + 1, by omega, hu⟩ (by simp; omega) (Weak.of_keep [3,6,7,8] (by simp))
  · rw [List.drop_eq_nil_of_le (by omega)] at hu
    have hs : True := trivial
    repeat' first | (with_reducible first | refine q01 ?_ | refine q02 ?_ | refine q03 ?_ | refine q04 ?_ | refine q05 ?_ | refine q06 ?_ | refine q07 (by decide) ?_ | refine q08 ?_ | refine q09 ?_ | refine q10 ?_ | refine q11 ?_ | refine q12 ?_ | refine q13 ?_ | refine q14 ?_ | refine q15 ?_ | refine q16 ?_ | refine q17 ?_ | refine And.intro (by omega) ?_) | (with_reducible refine At.fn_ret (by simp -dsimp [hlt, hs]; exact rfl) ?_) | (with_reducible refine At.fn_end (by simp -dsimp [hlt, hs]; exact rfl) ?_) | (with_reducible refine DT_regionE [0, 2, 3, 5, 6, 7, 8, 9, 14] ?_; simp -dsimp [hlt, hs]) | (refine DT_cond rfl (fun h => ?_) (fun h => ?_) <;> (try simp only [nrm] at h) <;> (try exact Bool.noConfusion h)) | (with_reducible refine GStop_split ?_ ?_ <;> intro h <;> have h0 := h <;> (try simp only [nrm] at h) <;> (try exact Bool.noConfusion h) <;> have h2 := h <;> (try simp at h2) <;> (replace hs := And.intro h0 (And.intro h (And.intro h2 hs))) <;> simp -dsimp [h0, h, h2, hlt, hs]) | (with_reducible refine imp_At (fun h => ?_); (try simp only [List.map_eq_nil_iff] at h); (try subst h); try simp -dsimp [hlt, hs]) | with_reducible refine And.intro ?_ ?_
    all_goals try simp -dsimp [hlt, hs]
    all_goals try clear hs
    rw [hu]; rfl
end Go.Proofs
