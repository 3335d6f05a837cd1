/- Part 25 of the proof whose last text closes the card: laws and walks that hold without conditions beyond those that each theorem names. -/
import Derived.Test.YtmonmfpdckdoiaaDoorB13
import Derived.Test.YtmonmfpdckdoiaaDoorB20
import Derived.Test.YtmonmfpdckdoiaaDoorB22
import Derived.Test.YtmonmfpdckdoiaaDoorB24
set_option linter.all false
set_option linter.deprecated false
namespace Go.Proofs
open Go Go.Ab
set_option linter.unusedSimpArgs false
variable {G : Nat → Option (List IC)}
def befN (y x : Note) : Bool := decide (y.day < x.day) || decide (y.day = x.day) && decide (y.number < x.number)
def nk8 (l : List Note) (i : Nat) (x : Note) : Bool := if i = 0 then true else match l[i - 1]? with | some y => befN y x | none => false
theorem or_cmp (y x : Note) : decide (orI [cmpI y.day x.day, cmpI y.number x.number] < 0) = befN y x := by
  unfold befN cmpI orI orI orI
  rw [Bool.eq_iff_iff]
  simp only [decide_eq_true_eq, Bool.or_eq_true, Bool.and_eq_true]
  repeat' split
  all_goals omega
set_option maxHeartbeats 1000000 in
theorem nk8_c (n : Notes) (i : Nat) (x : Note) (hx : n.notes[i]? = some x) (hl : n.notes.length < 1000) (objs : List DObj) : DCall Tryd.prog G 199 [notesv n, iv (i : Int)] objs (fun rr objs' => rr = bv (nk8 n.notes i x) ∧ objs' = objs) := by
  refine DCall.frame ?_ (by simp) (by simp) objs
  refine DCall_intro Tryd.func199 rfl Tryd.ntmps199 (by simp) rfl ?_
  try simp only [notesv, iv]
  have hi : i < n.notes.length := lt_of_getElem? hx
  have hxe : n.notes[i] = x := (List.getElem?_eq_some_iff.1 hx).2
  by_cases h00 : i = 0
  · subst h00
    have hs : True := trivial
    repeat' first | (with_reducible first | refine q01 ?_ | refine q02 ?_ | refine q03 ?_ | refine q04 ?_ | refine q05 ?_ | refine q06 ?_ | refine q07 (by decide) ?_ | refine q08 ?_ | refine q09 ?_ | refine q10 ?_ | refine q11 ?_ | refine q12 ?_ | refine q13 ?_ | refine q14 ?_ | refine q15 ?_ | refine q16 ?_ | refine q17 ?_ | refine And.intro (by omega) ?_) | (with_reducible refine At.fn_ret (by simp -dsimp [hxe, hi, hs]; exact rfl) ?_) | (with_reducible refine At.fn_end (by simp -dsimp [hxe, hi, hs]; exact rfl) ?_) | (refine DT_regionM (id := 1) (nt := 40) 36 [0, 1, 2, 4] mixed rfl (by kernel_rfl) ?_; simp -dsimp [hxe, hi, hs]) | (with_reducible refine DT_regionE [0, 1, 2, 4] ?_; simp -dsimp [hxe, hi, hs]) | (refine DT_cond rfl (fun h => ?_) (fun h => ?_) <;> (try simp only [nrm] at h) <;> (try exact Bool.noConfusion h)) | (with_reducible refine GStop_split ?_ ?_ <;> intro h <;> have h0 := h <;> (try simp only [nrm] at h) <;> (try exact Bool.noConfusion h) <;> have h2 := h <;> (try simp at h2) <;> (replace hs := And.intro h0 (And.intro h (And.intro h2 hs))) <;> simp -dsimp [h0, h, h2, hxe, hi, hs]) | (with_reducible refine imp_At (fun h => ?_); (try simp only [List.map_eq_nil_iff] at h); (try subst h); try simp -dsimp [hxe, hi, hs]) | with_reducible refine And.intro ?_ ?_
    all_goals try simp -dsimp [hxe, hi, hs]
    all_goals try clear hs
    all_goals simp [nk8]
  · have hi1 : i - 1 < n.notes.length := by omega
    have hw : IntKind.i64.wrap ((i : Int) - 1) = ((i - 1 : Nat) : Int) := by rw [i64w (by omega) (by omega)]; omega
    have hne : ((i : Int) = 0) = False := by simp [h00]
    generalize hy : n.notes[i - 1] = y
    have c1 := compare_c (G := G) y.day x.day
    have c2 := compare_c (G := G) y.number x.number
    have c3 := or_c (G := G) [cmpI y.day x.day, cmpI y.number x.number] (by simp)
    have hs : True := trivial
    repeat' first | (with_reducible first | refine q01 ?_ | refine q02 ?_ | refine q03 ?_ | refine q04 ?_ | refine q05 ?_ | refine q06 ?_ | refine q07 (by decide) ?_ | refine q08 ?_ | refine q09 ?_ | refine q10 ?_ | refine q11 ?_ | refine q12 ?_ | refine q13 ?_ | refine q14 ?_ | refine q15 ?_ | refine q16 ?_ | refine q17 ?_ | refine And.intro (by omega) ?_) | (with_reducible refine At.fn_ret (by simp -dsimp [hxe, hi, hi1, hw, hne, hy, h00, hs]; exact rfl) ?_) | (with_reducible refine At.fn_end (by simp -dsimp [hxe, hi, hi1, hw, hne, hy, h00, hs]; exact rfl) ?_) | (refine QCall_pure (c1) ?_; try simp -dsimp [hxe, hi, hi1, hw, hne, hy, h00, hs]) | (refine QCall_pure (c2) ?_; try simp -dsimp [hxe, hi, hi1, hw, hne, hy, h00, hs]) | (refine QCall_pure (c3) ?_; try simp -dsimp [hxe, hi, hi1, hw, hne, hy, h00, hs]) | (refine DT_regionM (id := 1) (nt := 40) 36 [0, 1, 2, 4] mixed rfl (by kernel_rfl) ?_; simp -dsimp [hxe, hi, hi1, hw, hne, hy, h00, hs]) | (with_reducible refine DT_regionE [0, 1, 2, 4] ?_; simp -dsimp [hxe, hi, hi1, hw, hne, hy, h00, hs]) | (refine DT_cond rfl (fun h => ?_) (fun h => ?_) <;> (try simp only [nrm] at h) <;> (try exact Bool.noConfusion h)) | (with_reducible refine GStop_split ?_ ?_ <;> intro h <;> have h0 := h <;> (try simp only [nrm] at h) <;> (try exact Bool.noConfusion h) <;> have h2 := h <;> (try simp at h2) <;> (replace hs := And.intro h0 (And.intro h (And.intro h2 hs))) <;> simp -dsimp [h0, h, h2, hxe, hi, hi1, hw, hne, hy, h00, hs]) | (with_reducible refine imp_At (fun h => ?_); (try simp only [List.map_eq_nil_iff] at h); (try subst h); try simp -dsimp [hxe, hi, hi1, hw, hne, hy, h00, hs]) | with_reducible refine And.intro ?_ ?_
    all_goals try simp -dsimp [hxe, hi, hi1, hw, hne, hy, h00, hs]
    all_goals try clear hs
    rw [or_cmp, nk8, if_neg h00, List.getElem?_eq_getElem hi1, hy]
def nk4 (l : List Issue) (x : Note) : Bool := if x.drawing = 0 ∧ x.letter = 0 then decide (x.cancels ≠ 0) else decide (atE l x.drawing x.letter = 0)
theorem nk4_c (n : Notes) (i : Nat) (x : Note) (hx : n.notes[i]? = some x) (hG : sheetG G) (hs : SmallR n.reg) (objs : List DObj) : DCall Tryd.prog G 192 [notesv n, iv (i : Int)] objs (fun rr objs' => rr = bv (nk4 n.reg x) ∧ objs' = objs) := by
  refine DCall.frame ?_ (by simp) (by simp) objs
  refine DCall_intro Tryd.func192 rfl Tryd.ntmps192 (by simp) rfl ?_
  try simp only [notesv, iv]
  have hi : i < n.notes.length := lt_of_getElem? hx
  have hxe : n.notes[i] = x := (List.getElem?_eq_some_iff.1 hx).2
  have c1 := at_c (G := G) n.reg x.drawing x.letter hG hs
  simp only [refv] at c1
  have hs : True := trivial
  repeat' first | (with_reducible first | refine q01 ?_ | refine q02 ?_ | refine q03 ?_ | refine q04 ?_ | refine q05 ?_ | refine q06 ?_ | refine q07 (by decide) ?_ | refine q08 ?_ | refine q09 ?_ | refine q10 ?_ | refine q11 ?_ | refine q12 ?_ | refine q13 ?_ | refine q14 ?_ | refine q15 ?_ | refine q16 ?_ | refine q17 ?_ | refine And.intro (by omega) ?_) | (with_reducible refine At.fn_ret (by simp -dsimp [hxe, hi, hs]; exact rfl) ?_) | (with_reducible refine At.fn_end (by simp -dsimp [hxe, hi, hs]; exact rfl) ?_) | (refine CallE.pure (c1) ?_; try simp -dsimp [hxe, hi, hs]) | (with_reducible refine DT_regionE [0, 1, 2, 4, 5, 7, 19] ?_; simp -dsimp [hxe, hi, hs]) | (refine DT_cond rfl (fun h => ?_) (fun h => ?_) <;> (try simp only [nrm] at h) <;> (try exact Bool.noConfusion h)) | (with_reducible refine GStop_split ?_ ?_ <;> intro h <;> have h0 := h <;> (try simp only [nrm] at h) <;> (try exact Bool.noConfusion h) <;> have h2 := h <;> (try simp at h2) <;> (replace hs := And.intro h0 (And.intro h (And.intro h2 hs))) <;> simp -dsimp [h0, h, h2, hxe, hi, hs]) | (with_reducible refine imp_At (fun h => ?_); (try simp only [List.map_eq_nil_iff] at h); (try subst h); try simp -dsimp [hxe, hi, hs]) | with_reducible refine And.intro ?_ ?_
  all_goals try simp -dsimp [hxe, hi, hs]
  all_goals try clear hs
  · have h1 : x.drawing = 0 ∧ x.letter = 0 := ⟨h.1.symm, h.2.symm⟩
    rw [nk4, if_pos h1]; simp
  · rw [nk4, if_neg (by omega)]
end Go.Proofs
namespace Go.Proofs
open Go Go.Ab
set_option linter.unusedSimpArgs false
variable {G : Nat → Option (List IC)}
theorem indexS_c (l : List Int) (n : Int) (hl : l.length < 1000000) (objs : List DObj) : DCall Tryd.prog G 128 [isv l, iv n] objs (fun rr objs' => rr = iv (fidx (fun x => decide (n = x)) l) ∧ objs' = objs) := by
  refine DCall.frame ?_ (by simp) (by simp) objs
  refine DCall_intro Tryd.func128 rfl Tryd.ntmps128 (by simp) rfl ?_
  try simp only [isv, iv]
  have hs : True := trivial
  repeat' first | (with_reducible first | refine q01 ?_ | refine q02 ?_ | refine q03 ?_ | refine q04 ?_ | refine q05 ?_ | refine q06 ?_ | refine q07 (by decide) ?_ | refine q08 ?_ | refine q09 ?_ | refine q10 ?_ | refine q11 ?_ | refine q12 ?_ | refine q13 ?_ | refine q14 ?_ | refine q15 ?_ | refine q16 ?_ | refine q17 ?_ | refine And.intro (by omega) ?_) | (with_reducible refine At.fn_ret (by simp -dsimp [hs]; exact rfl) ?_) | (with_reducible refine At.fn_end (by simp -dsimp [hs]; exact rfl) ?_) | (with_reducible refine DT_regionE [0, 1, 4, 5, 7, 8, 9, 16] ?_; simp -dsimp [hs]) | (refine DT_cond rfl (fun h => ?_) (fun h => ?_) <;> (try simp only [nrm] at h) <;> (try exact Bool.noConfusion h)) | (with_reducible refine GStop_split ?_ ?_ <;> intro h <;> have h0 := h <;> (try simp only [nrm] at h) <;> (try exact Bool.noConfusion h) <;> have h2 := h <;> (try simp at h2) <;> (replace hs := And.intro h0 (And.intro h (And.intro h2 hs))) <;> simp -dsimp [h0, h, h2, hs]) | (with_reducible refine imp_At (fun h => ?_); (try simp only [List.map_eq_nil_iff] at h); (try subst h); try simp -dsimp [hs]) | with_reducible refine And.intro ?_ ?_
  all_goals try simp -dsimp [hs]
  all_goals try clear hs
  refine DT_loop (ι := { k : Nat // k ≤ l.length ∧ ∀ j x, j < k → l[j]? = some x → decide (n = x) = false }) (fun i => ⟨19, [(0, isv l), (1, iv n), (7, iv (l.length : Int)), (8, iv (i.1 : Int))], []⟩) (fun i => l.length - i.1) ⟨0, by simp⟩ (Weak.of_keep [0,1,7,8] (by simp)) ?_
  rintro ⟨i, hi, hno⟩
  simp only [iv, isv]
  by_cases hlt : i < l.length
  · have hx0 : l[i]? = some l[i] := by simp [hlt]
    have hw : IntKind.i64.wrap ((i : Int) + 1) = ((i + 1 : Nat) : Int) := i64w (by omega) (by omega)
    generalize hx : l[i] = x at *
    have hs : True := trivial
    repeat' first | (with_reducible first | refine q01 ?_ | refine q02 ?_ | refine q03 ?_ | refine q04 ?_ | refine q05 ?_ | refine q06 ?_ | refine q07 (by decide) ?_ | refine q08 ?_ | refine q09 ?_ | refine q10 ?_ | refine q11 ?_ | refine q12 ?_ | refine q13 ?_ | refine q14 ?_ | refine q15 ?_ | refine q16 ?_ | refine q17 ?_ | refine And.intro (by omega) ?_) | (with_reducible refine At.fn_ret (by simp -dsimp [hx, hw, hlt, hs]; exact rfl) ?_) | (with_reducible refine At.fn_end (by simp -dsimp [hx, hw, hlt, hs]; exact rfl) ?_) | (with_reducible refine DT_regionE [0, 1, 4, 5, 7, 8, 9, 16] ?_; simp -dsimp [hx, hw, hlt, hs]) | (refine DT_cond rfl (fun h => ?_) (fun h => ?_) <;> (try simp only [nrm] at h) <;> (try exact Bool.noConfusion h)) | (with_reducible refine GStop_split ?_ ?_ <;> intro h <;> have h0 := h <;> (try simp only [nrm] at h) <;> (try exact Bool.noConfusion h) <;> have h2 := h <;> (try simp at h2) <;> (replace hs := And.intro h0 (And.intro h (And.intro h2 hs))) <;> simp -dsimp [h0, h, h2, hx, hw, hlt, hs]) | (with_reducible refine imp_At (fun h => ?_); (try simp only [List.map_eq_nil_iff] at h); (try subst h); try simp -dsimp [hx, hw, hlt, hs]) | with_reducible refine And.intro ?_ ?_
    all_goals try simp -dsimp [hx, hw, hlt, hs]
    all_goals try clear hs
    · exact (fidx_yes hx0 (by simp; assumption) hno).symm
    · exact At.round ⟨i + 1, by omega, fun j y hj hjx => by
        by_cases e : j = i
        · subst e; rw [hx0] at hjx; cases hjx; simp; assumption
        · exact hno j y (by omega) hjx⟩ (by simp; omega) (Weak.of_keep [0,1,7,8] (by simp))
  · have hs : True := trivial
    repeat' first | (with_reducible first | refine q01 ?_ | refine q02 ?_ | refine q03 ?_ | refine q04 ?_ | refine q05 ?_ | refine q06 ?_ | refine q07 (by decide) ?_ | refine q08 ?_ | refine q09 ?_ | refine q10 ?_ | refine q11 ?_ | refine q12 ?_ | refine q13 ?_ | refine q14 ?_ | refine q15 ?_ | refine q16 ?_ | refine q17 ?_ | refine And.intro (by omega) ?_) | (with_reducible refine At.fn_ret (by simp -dsimp [hlt, hs]; exact rfl) ?_) | (with_reducible refine At.fn_end (by simp -dsimp [hlt, hs]; exact rfl) ?_) | (with_reducible refine DT_regionE [0, 1, 4, 5, 7, 8, 9, 16] ?_; simp -dsimp [hlt, hs]) | (refine DT_cond rfl (fun h => ?_) (fun h => ?_) <;> (try simp only [nrm] at h) <;> (try exact Bool.noConfusion h)) | (with_reducible refine GStop_split ?_ ?_ <;> intro h <;> have h0 := h <;> (try simp only [nrm] at h) <;> (try exact Bool.noConfusion h) <;> have h2 := h <;> (try simp at h2) <;> (replace hs := And.intro h0 (And.intro h (And.intro h2 hs))) <;> simp -dsimp [h0, h, h2, hlt, hs]) | (with_reducible refine imp_At (fun h => ?_); (try simp only [List.map_eq_nil_iff] at h); (try subst h); try simp -dsimp [hlt, hs]) | with_reducible refine And.intro ?_ ?_
    all_goals try simp -dsimp [hlt, hs]
    all_goals try clear hs
    exact (fidx_no fun j x hjx => hno j x (by have := lt_of_getElem? hjx; omega) hjx).symm
theorem contains_c (l : List Int) (n : Int) (hl : l.length < 1000000) (objs : List DObj) : DCall Tryd.prog G 99 [isv l, iv n] objs (fun rr objs' => rr = bv (decide (n ∈ l)) ∧ objs' = objs) := by
  refine DCall.frame ?_ (by simp) (by simp) objs
  refine DCall_intro Tryd.func99 rfl Tryd.ntmps99 (by simp) rfl ?_
  try simp only [isv, iv]
  have hc := indexS_c (G := G) l n hl
  have hs : True := trivial
  repeat' first | (with_reducible first | refine q01 ?_ | refine q02 ?_ | refine q03 ?_ | refine q04 ?_ | refine q05 ?_ | refine q06 ?_ | refine q07 (by decide) ?_ | refine q08 ?_ | refine q09 ?_ | refine q10 ?_ | refine q11 ?_ | refine q12 ?_ | refine q13 ?_ | refine q14 ?_ | refine q15 ?_ | refine q16 ?_ | refine q17 ?_ | refine And.intro (by omega) ?_) | (with_reducible refine At.fn_ret (by simp -dsimp [hs]; exact rfl) ?_) | (with_reducible refine At.fn_end (by simp -dsimp [hs]; exact rfl) ?_) | (refine CallE.pure (hc) ?_; try simp -dsimp [hs]) | (with_reducible refine DT_regionE [0, 1, 4] ?_; simp -dsimp [hs]) | (refine DT_cond rfl (fun h => ?_) (fun h => ?_) <;> (try simp only [nrm] at h) <;> (try exact Bool.noConfusion h)) | (with_reducible refine GStop_split ?_ ?_ <;> intro h <;> have h0 := h <;> (try simp only [nrm] at h) <;> (try exact Bool.noConfusion h) <;> have h2 := h <;> (try simp at h2) <;> (replace hs := And.intro h0 (And.intro h (And.intro h2 hs))) <;> simp -dsimp [h0, h, h2, hs]) | (with_reducible refine imp_At (fun h => ?_); (try simp only [List.map_eq_nil_iff] at h); (try subst h); try simp -dsimp [hs]) | with_reducible refine And.intro ?_ ?_
  all_goals try simp -dsimp [hs]
  all_goals try clear hs
  have h1 := fidx_nonneg (fun x => decide (n = x)) l
  rw [← decide_eq_true_iff (p := 0 ≤ _), h1]
  simp
theorem within3_c (n lo hi : Int) (objs : List DObj) : DCall Tryd.prog G 101 [iv n, iv lo, iv hi] objs (fun rr objs' => rr = bv (decide (lo ≤ n) && decide (n ≤ hi)) ∧ objs' = objs) := by
  refine DCall.frame ?_ (by simp) (by simp) objs
  refine DCall_intro Tryd.func101 rfl Tryd.ntmps101 (by simp) rfl ?_
  try simp only [iv, iv, iv]
  have hs : True := trivial
  repeat' first | (with_reducible first | refine q01 ?_ | refine q02 ?_ | refine q03 ?_ | refine q04 ?_ | refine q05 ?_ | refine q06 ?_ | refine q07 (by decide) ?_ | refine q08 ?_ | refine q09 ?_ | refine q10 ?_ | refine q11 ?_ | refine q12 ?_ | refine q13 ?_ | refine q14 ?_ | refine q15 ?_ | refine q16 ?_ | refine q17 ?_ | refine And.intro (by omega) ?_) | (with_reducible refine At.fn_ret (by simp -dsimp [hs]; exact rfl) ?_) | (with_reducible refine At.fn_end (by simp -dsimp [hs]; exact rfl) ?_) | (with_reducible refine DT_regionE [0, 1, 2, 6] ?_; simp -dsimp [hs]) | (refine DT_cond rfl (fun h => ?_) (fun h => ?_) <;> (try simp only [nrm] at h) <;> (try exact Bool.noConfusion h)) | (with_reducible refine GStop_split ?_ ?_ <;> intro h <;> have h0 := h <;> (try simp only [nrm] at h) <;> (try exact Bool.noConfusion h) <;> have h2 := h <;> (try simp at h2) <;> (replace hs := And.intro h0 (And.intro h (And.intro h2 hs))) <;> simp -dsimp [h0, h, h2, hs]) | (with_reducible refine imp_At (fun h => ?_); (try simp only [List.map_eq_nil_iff] at h); (try subst h); try simp -dsimp [hs]) | with_reducible refine And.intro ?_ ?_
  all_goals try simp -dsimp [hs]
  all_goals try clear hs
  all_goals simp_all
theorem has3_c (l : List Int) (n : Int) (hl : l.length < 1000000) (objs : List DObj) : DCall Tryd.prog G 102 [isv l, iv n] objs (fun rr objs' => rr = bv (decide (n ∈ l)) ∧ objs' = objs) := by
  refine DCall.frame ?_ (by simp) (by simp) objs
  refine DCall_intro Tryd.func102 rfl Tryd.ntmps102 (by simp) rfl ?_
  try simp only [isv, iv]
  have hs : True := trivial
  repeat' first | (with_reducible first | refine q01 ?_ | refine q02 ?_ | refine q03 ?_ | refine q04 ?_ | refine q05 ?_ | refine q06 ?_ | refine q07 (by decide) ?_ | refine q08 ?_ | refine q09 ?_ | refine q10 ?_ | refine q11 ?_ | refine q12 ?_ | refine q13 ?_ | refine q14 ?_ | refine q15 ?_ | refine q16 ?_ | refine q17 ?_ | refine And.intro (by omega) ?_) | (with_reducible refine At.fn_ret (by simp -dsimp [hs]; exact rfl) ?_) | (with_reducible refine At.fn_end (by simp -dsimp [hs]; exact rfl) ?_) | (with_reducible refine DT_regionE [0, 1, 4, 5, 9, 17] ?_; simp -dsimp [hs]) | (refine DT_cond rfl (fun h => ?_) (fun h => ?_) <;> (try simp only [nrm] at h) <;> (try exact Bool.noConfusion h)) | (with_reducible refine GStop_split ?_ ?_ <;> intro h <;> have h0 := h <;> (try simp only [nrm] at h) <;> (try exact Bool.noConfusion h) <;> have h2 := h <;> (try simp at h2) <;> (replace hs := And.intro h0 (And.intro h (And.intro h2 hs))) <;> simp -dsimp [h0, h, h2, hs]) | (with_reducible refine imp_At (fun h => ?_); (try simp only [List.map_eq_nil_iff] at h); (try subst h); try simp -dsimp [hs]) | with_reducible refine And.intro ?_ ?_
  all_goals try simp -dsimp [hs]
  all_goals try clear hs
  refine DT_loop (ι := { k : Nat // k ≤ l.length ∧ decide (n ∈ l) = decide (n ∈ l.drop k) }) (fun i => ⟨18, [(0, isv l), (1, iv n), (5, iv (i.1 : Int))], []⟩) (fun i => l.length - i.1) ⟨0, by simp⟩ (Weak.of_keep [0,1,5] (by simp)) ?_
  rintro ⟨i, hi, hno⟩
  simp only [iv, isv]
  by_cases hlt : i < l.length
  · have hw : IntKind.i64.wrap ((i : Int) + 1) = ((i + 1 : Nat) : Int) := i64w (by omega) (by omega)
    rw [List.drop_eq_getElem_cons hlt] at hno
    generalize hx : l[i] = x at *
    have hs : True := trivial
    repeat' first | (with_reducible first | refine q01 ?_ | refine q02 ?_ | refine q03 ?_ | refine q04 ?_ | refine q05 ?_ | refine q06 ?_ | refine q07 (by decide) ?_ | refine q08 ?_ | refine q09 ?_ | refine q10 ?_ | refine q11 ?_ | refine q12 ?_ | refine q13 ?_ | refine q14 ?_ | refine q15 ?_ | refine q16 ?_ | refine q17 ?_ | refine And.intro (by omega) ?_) | (with_reducible refine At.fn_ret (by simp -dsimp [hx, hw, hlt, hs]; exact rfl) ?_) | (with_reducible refine At.fn_end (by simp -dsimp [hx, hw, hlt, hs]; exact rfl) ?_) | (with_reducible refine DT_regionE [0, 1, 4, 5, 9, 17] ?_; simp -dsimp [hx, hw, hlt, hs]) | (refine DT_cond rfl (fun h => ?_) (fun h => ?_) <;> (try simp only [nrm] at h) <;> (try exact Bool.noConfusion h)) | (with_reducible refine GStop_split ?_ ?_ <;> intro h <;> have h0 := h <;> (try simp only [nrm] at h) <;> (try exact Bool.noConfusion h) <;> have h2 := h <;> (try simp at h2) <;> (replace hs := And.intro h0 (And.intro h (And.intro h2 hs))) <;> simp -dsimp [h0, h, h2, hx, hw, hlt, hs]) | (with_reducible refine imp_At (fun h => ?_); (try simp only [List.map_eq_nil_iff] at h); (try subst h); try simp -dsimp [hx, hw, hlt, hs]) | with_reducible refine And.intro ?_ ?_
    all_goals try simp -dsimp [hx, hw, hlt, hs]
    all_goals try clear hs
    · exact of_decide_eq_true (by rw [hno]; simp [*])
    · exact At.round ⟨i + 1, by omega, by rw [hno, decide_eq_decide, List.mem_cons]; exact or_iff_right (fun e => absurd e.symm (by assumption))⟩ (by simp; omega) (Weak.of_keep [0,1,5] (by simp))
  · rw [List.drop_eq_nil_of_le (by omega)] at hno
    have hs : True := trivial
    repeat' first | (with_reducible first | refine q01 ?_ | refine q02 ?_ | refine q03 ?_ | refine q04 ?_ | refine q05 ?_ | refine q06 ?_ | refine q07 (by decide) ?_ | refine q08 ?_ | refine q09 ?_ | refine q10 ?_ | refine q11 ?_ | refine q12 ?_ | refine q13 ?_ | refine q14 ?_ | refine q15 ?_ | refine q16 ?_ | refine q17 ?_ | refine And.intro (by omega) ?_) | (with_reducible refine At.fn_ret (by simp -dsimp [hlt, hs]; exact rfl) ?_) | (with_reducible refine At.fn_end (by simp -dsimp [hlt, hs]; exact rfl) ?_) | (with_reducible refine DT_regionE [0, 1, 4, 5, 9, 17] ?_; simp -dsimp [hlt, hs]) | (refine DT_cond rfl (fun h => ?_) (fun h => ?_) <;> (try simp only [nrm] at h) <;> (try exact Bool.noConfusion h)) | (with_reducible refine GStop_split ?_ ?_ <;> intro h <;> have h0 := h <;> (try simp only [nrm] at h) <;> (try exact Bool.noConfusion h) <;> have h2 := h <;> (try simp at h2) <;> (replace hs := And.intro h0 (And.intro h (And.intro h2 hs))) <;> simp -dsimp [h0, h, h2, hlt, hs]) | (with_reducible refine imp_At (fun h => ?_); (try simp only [List.map_eq_nil_iff] at h); (try subst h); try simp -dsimp [hlt, hs]) | with_reducible refine And.intro ?_ ?_
    all_goals try simp -dsimp [hlt, hs]
    all_goals try clear hs
    exact fun hm => by simp [hm] at hno
end Go.Proofs
namespace Go.Proofs
open Go Go.Ab
/-- All that a note is asked, at its place. -/
def nkA (n : Notes) (i : Nat) (x : Note) : Bool := nk1 x && nk2 x && nk3 x && nk4 n.reg x && nk5 x && nk6 n.notes i x && nk7 n.notes i x && nk8 n.notes i x
def nkI (n : Notes) (i : Nat) (x : Note) : Nat → Bool
  | 0 => nk1 x
  | 1 => nk2 x
  | 2 => nk3 x
  | 3 => nk4 n.reg x
  | 4 => nk5 x
  | 5 => nk6 n.notes i x
  | 6 => nk7 n.notes i x
  | _ => nk8 n.notes i x
theorem nkI_bad {n : Notes} {i : Nat} {x : Note} {k : Nat} (h : nkI n i x k = false) : nkA n i x = false := by
  unfold nkA
  match k with
  | 0 | 1 | 2 | 3 | 4 | 5 | 6 => simp only [nkI] at h; simp [h]
  | k + 7 => simp only [nkI] at h; simp [h]
theorem nkI_all {n : Notes} {i : Nat} {x : Note} (h : ∀ k < 8, nkI n i x k = true) : nkA n i x = true := by
  have h0 := h 0 (by omega); have h1 := h 1 (by omega); have h2 := h 2 (by omega); have h3 := h 3 (by omega)
  have h4 := h 4 (by omega); have h5 := h 5 (by omega); have h6 := h 6 (by omega); have h7 := h 7 (by omega)
  simp only [nkI] at h0 h1 h2 h3 h4 h5 h6 h7
  simp [nkA, h0, h1, h2, h3, h4, h5, h6, h7]
/-- The reference's test. -/
def rnA (x : Note) : Bool := (decide (1 ≤ x.number) && decide (x.number ≤ 9999)) && (decide (0 ≤ x.day) && decide (x.day ≤ 14610)) && decide (x.signed ≤ 2) && (decide (1 ≤ x.frm) && decide (x.frm ≤ x.to)) && decide (x.to ≤ 999) && decide (x.ways ≤ 3)
def rnB (l : List Issue) (x : Note) : Bool := if x.drawing = 0 ∧ x.letter = 0 then decide (x.cancels ≠ 0) else (findI l x.drawing x.letter).isSome
def rnD (x : Note) : Bool := !(decide (x.letter < 2) && (x.useUp || decide (0 < x.ways)))
def rnT (n : Notes) (i : Nat) (x : Note) : Bool := rnA x && rnB n.reg x && rnD x && nk7 n.notes i x && nk6 n.notes i x && nk8 n.notes i x
theorem rnT_eq {n : Notes} {i : Nat} {x : Note} (h0 : checkR n.reg = 0) (hw : 0 ≤ x.ways) : rnT n i x = nkA n i x := by
  have hB : rnB n.reg x = nk4 n.reg x := by
    unfold rnB nk4 atE
    rw [if_neg (show ¬ checkR n.reg ≠ 0 by simp [h0])]
    split
    · rfl
    · cases (findI n.reg x.drawing x.letter).isSome <;> rfl
  have hC : rnD x = nk5 x := by
    unfold rnD nk5
    rw [Bool.eq_iff_iff]
    cases x.useUp <;> simp <;> omega
  have hA : rnA x = (nk1 x && nk2 x && nk3 x) := by
    unfold rnA nk1 nk2 nk3
    rw [Bool.eq_iff_iff]
    simp only [Bool.and_eq_true, decide_eq_true_eq]
    omega
  unfold rnT nkA
  rw [hA, hB, hC]
  generalize nk6 n.notes i x = a
  generalize nk7 n.notes i x = b
  cases a <;> cases b <;> simp
/-- The open notes' Numbers. -/
def openL (l : List Note) : List Int := (l.filter fun x => decide (x.signed = 1)).map (·.number)
theorem openL_snoc (l : List Note) (k : Nat) (h : k < l.length) : openL (l.take (k + 1)) = openL (l.take k) ++ (if l[k].signed = 1 then [l[k].number] else []) := by
  unfold openL
  rw [List.take_succ_eq_append_getElem h, List.filter_append, List.map_append]
  congr 1
  by_cases e : l[k].signed = 1 <;> simp [e]
theorem openL_len (l : List Note) : (openL l).length ≤ l.length := by
  unfold openL; rw [List.length_map]; exact List.length_filter_le _ _
def allOk (n : Notes) : Prop := ∀ (i : Nat) (x : Note), n.notes[i]? = some x → nkA n i x = true
def notesB (n : Notes) : Bool := decide (n.notes.length ≤ 12) && (List.range n.notes.length).all (fun i => match n.notes[i]? with | some x => nkA n i x | none => true) && decide ((openL n.notes).length ≤ 5)
def notesE (n : Notes) : Int := if checkR n.reg ≠ 0 then checkR n.reg else if notesB n then 0 else 30
theorem notesB_iff {n : Notes} : notesB n = true ↔ n.notes.length ≤ 12 ∧ allOk n ∧ (openL n.notes).length ≤ 5 := by
  simp only [notesB, Bool.and_eq_true, decide_eq_true_eq, List.all_eq_true, List.mem_range, and_assoc]
  refine and_congr_right fun _ => and_congr_left fun _ => ⟨fun h i x hx => ?_, fun h i hi => ?_⟩
  · have := h i (List.getElem?_eq_some_iff.1 hx).1
    rw [hx] at this; exact this
  · rw [List.getElem?_eq_getElem hi]
    exact h i _ (List.getElem?_eq_getElem hi)
/-- The numbers are all different. -/
theorem nums_nodup {n : Notes} (h : allOk n) : (n.notes.map (·.number)).Nodup := by
  rw [List.nodup_iff_pairwise_ne, List.pairwise_iff_getElem]
  intro i j hi hj hij
  simp only [List.length_map] at hi hj
  simp only [List.getElem_map]
  have h1 := h j _ (List.getElem?_eq_getElem hj)
  simp only [nkA, Bool.and_eq_true, nk7, Bool.not_eq_true', List.any_eq_false, decide_eq_true_eq] at h1
  refine h1.1.2 _ (List.mem_iff_getElem.2 ⟨i, by simp; omega, ?_⟩)
  simp
theorem openL_nodup {n : Notes} (h : allOk n) : (openL n.notes).Nodup := by
  have := nums_nodup h
  unfold openL
  exact this.sublist ((List.filter_sublist).map _)
/-! ### Truths -/
def truthP (o s : List Int) : Prop := ∀ (i : Nat) (v : Int), s[i]? = some v → v ∈ o ∧ ∀ j u, i = j + 1 → s[j]? = some u → u < v
def truthAt (o s : List Int) (v : Int) : Nat → Bool
  | 0 => decide (v ∈ o)
  | j + 1 => decide (v ∈ o) && (match s[j]? with | some u => decide (u < v) | none => true)
def truthB (o s : List Int) : Bool := (List.range s.length).all fun i => match s[i]? with | some v => truthAt o s v i | none => true
theorem truthB_iff {o s : List Int} : truthB o s = true ↔ truthP o s := by
  simp only [truthB, List.all_eq_true, List.mem_range]
  constructor
  · intro h i v hv
    have h1 := h i (List.getElem?_eq_some_iff.1 hv).1
    rw [hv] at h1
    simp only at h1
    cases i with
    | zero =>
      simp only [truthAt, decide_eq_true_eq] at h1
      exact ⟨h1, fun j u e => by omega⟩
    | succ i =>
      simp only [truthAt, decide_eq_true_eq, Bool.and_eq_true] at h1
      refine ⟨h1.1, fun j u e hu => ?_⟩
      obtain rfl : j = i := by omega
      rw [hu] at h1; simpa using h1.2
  · intro h i hi
    rw [List.getElem?_eq_getElem hi]
    simp only
    obtain ⟨h1, h2⟩ := h i _ (List.getElem?_eq_getElem hi)
    cases i with
    | zero => simpa only [truthAt, decide_eq_true_eq] using h1
    | succ i =>
      have hj : i < s.length := by omega
      simp only [truthAt, List.getElem?_eq_getElem hj, Bool.and_eq_true, decide_eq_true_eq]
      exact ⟨h1, h2 i _ rfl (List.getElem?_eq_getElem hj)⟩
theorem truth_bad {o s : List Int} {i : Nat} {v : Int} (h : s[i]? = some v) (hb : v ∉ o ∨ ∃ j u, i = j + 1 ∧ s[j]? = some u ∧ v ≤ u) : truthB o s = false := by
  rw [← Bool.not_eq_true, truthB_iff]
  intro ht
  obtain ⟨h1, h2⟩ := ht i v h
  rcases hb with hb | ⟨j, u, e, hu, hle⟩
  · exact hb h1
  · have := h2 j u e hu; omega
theorem truth_good {o s : List Int} (h : truthP o s) : truthB o s = true := truthB_iff.2 h
/-- What holds of the first ones. -/
def truthTo (o s : List Int) (k : Nat) : Prop := ∀ (i : Nat) (v : Int), i < k → s[i]? = some v → v ∈ o ∧ ∀ j u, i = j + 1 → s[j]? = some u → u < v
theorem truthTo_step {o s : List Int} {k : Nat} {v : Int} (h : truthTo o s k) (hv : s[k]? = some v) (ho : v ∈ o) (hl : ∀ j u, k = j + 1 → s[j]? = some u → u < v) : truthTo o s (k + 1) := by
  intro i w hi hw
  by_cases e : i = k
  · subst e; rw [hv] at hw; cases hw; exact ⟨ho, hl⟩
  · exact h i w (by omega) hw
theorem truthTo_all {o s : List Int} (h : truthTo o s s.length) : truthP o s := fun i v hv => h i v (List.getElem?_eq_some_iff.1 hv).1 hv
theorem truthTo_lt {o s : List Int} {k : Nat} (h : truthTo o s k) : ∀ (j i : Nat) (u v : Int), i < j → j < k → s[i]? = some u → s[j]? = some v → u < v
  | 0, _, _, _, h1, _, _, _ => by omega
  | j + 1, i, u, v, h1, h2, h3, h4 => by
    have hj : j < s.length := by have := (List.getElem?_eq_some_iff.1 h4).1; omega
    have hw : s[j]? = some s[j] := List.getElem?_eq_getElem hj
    have h5 := (h (j + 1) v h2 h4).2 j s[j] rfl hw
    by_cases e : i = j
    · subst e; rw [hw] at h3; cases h3; exact h5
    · have := truthTo_lt h j i u s[j] (by omega) (by omega) h3 hw; omega
/-- A number that comes behind the first ones is not among them just if it is greater than the last one. -/
theorem truthTo_new {o s : List Int} {k : Nat} {v : Int} (h : truthTo o s (k + 1)) (hk : k < s.length) (hv : s[k] < v) : v ∉ s.take (k + 1) := by
  intro hm
  obtain ⟨i, hi, e⟩ := List.mem_take_iff_getElem.1 hm
  by_cases he : i = k
  · subst he; omega
  · have := truthTo_lt h k i s[i] s[k] (by omega) (by omega) (List.getElem?_eq_getElem _) (List.getElem?_eq_getElem _); omega
end Go.Proofs
namespace Go.Ab
open Go
def isort (l : List Int) : List Int := l.mergeSort fun x y => decide (x ≤ y)
theorem isort_len (l : List Int) : (isort l).length = l.length := by simp [isort]
end Go.Ab
namespace Go.Proofs
open Go Go.Ab
set_option linter.unusedSimpArgs false
variable {G : Nat → Option (List IC)}
def SmallN (n : Notes) : Prop := Small n.reg ∧ n.notes.length ≤ 16
def smallNB (n : Notes) : Bool := open Classical in decide (Small n.reg) && decide (n.notes.length ≤ 16)
theorem great3_c (n : Notes) (objs : List DObj) : DCall Tryd.prog G 16 [notesv n] objs (fun rr objs' => rr = bv (!smallNB n) ∧ objs' = objs) := by
  refine DCall.frame ?_ (by simp) (by simp) objs
  refine DCall_intro Tryd.func16 rfl Tryd.ntmps16 (by simp) rfl ?_
  try simp only [notesv]
  have c1 := great_c (G := G) n.reg
  have hE : smallNB n = (open Classical in decide (Small n.reg) && decide (n.notes.length ≤ 16)) := rfl
  by_cases hS : Small n.reg
  · have c1' : ∀ objs, DCall Tryd.prog G 38 [regv n.reg] objs (fun d objs' => d = bv false ∧ objs' = objs) := fun objs => (c1 objs).mono fun d o ⟨h1, h2⟩ => ⟨by rw [h1]; simp [hS], h2⟩
    rw [decide_eq_true hS, Bool.true_and] at hE
    have hs : True := trivial
    repeat' first | (with_reducible first | refine q01 ?_ | refine q02 ?_ | refine q03 ?_ | refine q04 ?_ | refine q05 ?_ | refine q06 ?_ | refine q07 (by decide) ?_ | refine q08 ?_ | refine q09 ?_ | refine q10 ?_ | refine q11 ?_ | refine q12 ?_ | refine q13 ?_ | refine q14 ?_ | refine q15 ?_ | refine q16 ?_ | refine q17 ?_ | refine And.intro (by omega) ?_) | (with_reducible refine At.fn_ret (by simp -dsimp [hs]; exact rfl) ?_) | (with_reducible refine At.fn_end (by simp -dsimp [hs]; exact rfl) ?_) | (refine CallE.pure (c1') ?_; try simp -dsimp [hs]) | (with_reducible refine DT_regionE [0, 1, 2] ?_; simp -dsimp [hs]) | (refine DT_cond rfl (fun h => ?_) (fun h => ?_) <;> (try simp only [nrm] at h) <;> (try exact Bool.noConfusion h)) | (with_reducible refine GStop_split ?_ ?_ <;> intro h <;> have h0 := h <;> (try simp only [nrm] at h) <;> (try exact Bool.noConfusion h) <;> have h2 := h <;> (try simp at h2) <;> (replace hs := And.intro h0 (And.intro h (And.intro h2 hs))) <;> simp -dsimp [h0, h, h2, hs]) | (with_reducible refine imp_At (fun h => ?_); (try simp only [List.map_eq_nil_iff] at h); (try subst h); try simp -dsimp [hs]) | with_reducible refine And.intro ?_ ?_
    all_goals try simp -dsimp [hs]
    all_goals try clear hs
    rw [hE, ← decide_not, decide_eq_decide]; omega
  · have c1' : ∀ objs, DCall Tryd.prog G 38 [regv n.reg] objs (fun d objs' => d = bv true ∧ objs' = objs) := fun objs => (c1 objs).mono fun d o ⟨h1, h2⟩ => ⟨by rw [h1]; simp [hS], h2⟩
    rw [decide_eq_false hS, Bool.false_and] at hE
    have hs : True := trivial
    repeat' first | (with_reducible first | refine q01 ?_ | refine q02 ?_ | refine q03 ?_ | refine q04 ?_ | refine q05 ?_ | refine q06 ?_ | refine q07 (by decide) ?_ | refine q08 ?_ | refine q09 ?_ | refine q10 ?_ | refine q11 ?_ | refine q12 ?_ | refine q13 ?_ | refine q14 ?_ | refine q15 ?_ | refine q16 ?_ | refine q17 ?_ | refine And.intro (by omega) ?_) | (with_reducible refine At.fn_ret (by simp -dsimp [hs]; exact rfl) ?_) | (with_reducible refine At.fn_end (by simp -dsimp [hs]; exact rfl) ?_) | (refine CallE.pure (c1') ?_; try simp -dsimp [hs]) | (with_reducible refine DT_regionE [0, 1, 2] ?_; simp -dsimp [hs]) | (refine DT_cond rfl (fun h => ?_) (fun h => ?_) <;> (try simp only [nrm] at h) <;> (try exact Bool.noConfusion h)) | (with_reducible refine GStop_split ?_ ?_ <;> intro h <;> have h0 := h <;> (try simp only [nrm] at h) <;> (try exact Bool.noConfusion h) <;> have h2 := h <;> (try simp at h2) <;> (replace hs := And.intro h0 (And.intro h (And.intro h2 hs))) <;> simp -dsimp [h0, h, h2, hs]) | (with_reducible refine imp_At (fun h => ?_); (try simp only [List.map_eq_nil_iff] at h); (try subst h); try simp -dsimp [hs]) | with_reducible refine And.intro ?_ ?_
    all_goals try simp -dsimp [hs]
    all_goals try clear hs
    rw [hE]; try rfl
theorem same3_c (n : Notes) (hs : SmallN n) (objs : List DObj) : DCall Tryd.prog G 27 [notesv n, notesv n] objs (fun rr objs' => rr = bv true ∧ objs' = objs) := by
  refine DCall.frame ?_ (by simp) (by simp) objs
  refine DCall_intro Tryd.func27 rfl Tryd.ntmps27 (by simp) rfl ?_
  try simp only [notesv, notesv]
  have c1 := same_c (G := G) n.reg n.reg hs.1
  simp only [decide_true] at c1
  have hl := hs.2
  have hs : True := trivial
  repeat' first | (with_reducible first | refine q01 ?_ | refine q02 ?_ | refine q03 ?_ | refine q04 ?_ | refine q05 ?_ | refine q06 ?_ | refine q07 (by decide) ?_ | refine q08 ?_ | refine q09 ?_ | refine q10 ?_ | refine q11 ?_ | refine q12 ?_ | refine q13 ?_ | refine q14 ?_ | refine q15 ?_ | refine q16 ?_ | refine q17 ?_ | refine And.intro (by omega) ?_) | (with_reducible refine At.fn_ret (by simp -dsimp [hs]; exact rfl) ?_) | (with_reducible refine At.fn_end (by simp -dsimp [hs]; exact rfl) ?_) | (refine CallE.pure (c1) ?_; try simp -dsimp [hs]) | (refine DT_regionM (id := 6) (nt := 39) 11 [0, 1, 2, 3, 4, 5, 20, 25, 38] mixed rfl (by kernel_rfl) ?_; simp -dsimp [hs]) | (with_reducible refine DT_regionE [0, 1, 2, 3, 4, 5, 20, 25, 38] ?_; simp -dsimp [hs]) | (refine DT_cond rfl (fun h => ?_) (fun h => ?_) <;> (try simp only [nrm] at h) <;> (try exact Bool.noConfusion h)) | (with_reducible refine GStop_split ?_ ?_ <;> intro h <;> have h0 := h <;> (try simp only [nrm] at h) <;> (try exact Bool.noConfusion h) <;> have h2 := h <;> (try simp at h2) <;> (replace hs := And.intro h0 (And.intro h (And.intro h2 hs))) <;> simp -dsimp [h0, h, h2, hs]) | (with_reducible refine imp_At (fun h => ?_); (try simp only [List.map_eq_nil_iff] at h); (try subst h); try simp -dsimp [hs]) | with_reducible refine And.intro ?_ ?_
  all_goals try simp -dsimp [hs]
  all_goals try clear hs
  refine DT_loop (ι := { k : Nat // k ≤ n.notes.length }) (fun p => ⟨39, [(2, .one (.ptr 0 0)), (3, .one (.ptr 1 0)), (4, bv false), (5, iv (p.1 : Int))], [.row ((encNotes n).map .im), .row ((encNotes n).map .im)]⟩) (fun p => n.notes.length - p.1) ⟨0, by simp⟩ (Weak.of_keep [2,3,4,5] (by simp)) ?_
  rintro ⟨k, hk⟩
  simp only [iv, bv]
  by_cases hlt : k < n.notes.length
  · have hw : IntKind.i64.wrap ((k : Int) + 1) = ((k + 1 : Nat) : Int) := i64w (by omega) (by omega)
    generalize hx : n.notes[k] = x
    have hs : True := trivial
    repeat' first | (with_reducible first | refine q01 ?_ | refine q02 ?_ | refine q03 ?_ | refine q04 ?_ | refine q05 ?_ | refine q06 ?_ | refine q07 (by decide) ?_ | refine q08 ?_ | refine q09 ?_ | refine q10 ?_ | refine q11 ?_ | refine q12 ?_ | refine q13 ?_ | refine q14 ?_ | refine q15 ?_ | refine q16 ?_ | refine q17 ?_ | refine And.intro (by omega) ?_) | (with_reducible refine At.fn_ret (by simp -dsimp [hx, hlt, hw, hs]; exact rfl) ?_) | (with_reducible refine At.fn_end (by simp -dsimp [hx, hlt, hw, hs]; exact rfl) ?_) | (refine DT_regionM (id := 6) (nt := 39) 11 [0, 1, 2, 3, 4, 5, 20, 25, 38] mixed rfl (by kernel_rfl) ?_; simp -dsimp [hx, hlt, hw, hs]) | (with_reducible refine DT_regionE [0, 1, 2, 3, 4, 5, 20, 25, 38] ?_; simp -dsimp [hx, hlt, hw, hs]) | (refine DT_cond rfl (fun h => ?_) (fun h => ?_) <;> (try simp only [nrm] at h) <;> (try exact Bool.noConfusion h)) | (with_reducible refine GStop_split ?_ ?_ <;> intro h <;> have h0 := h <;> (try simp only [nrm] at h) <;> (try exact Bool.noConfusion h) <;> have h2 := h <;> (try simp at h2) <;> (replace hs := And.intro h0 (And.intro h (And.intro h2 hs))) <;> simp -dsimp [h0, h, h2, hx, hlt, hw, hs]) | (with_reducible refine imp_At (fun h => ?_); (try simp only [List.map_eq_nil_iff] at h); (try subst h); try simp -dsimp [hx, hlt, hw, hs]) | with_reducible refine And.intro ?_ ?_
    all_goals try simp -dsimp [hx, hlt, hw, hs]
    all_goals try clear hs
    exact At.round ⟨k + 1, by omega⟩ (by simp; omega) (Weak.of_keep [2,3,4,5] (by simp))
  · have hs : True := trivial
    repeat' first | (with_reducible first | refine q01 ?_ | refine q02 ?_ | refine q03 ?_ | refine q04 ?_ | refine q05 ?_ | refine q06 ?_ | refine q07 (by decide) ?_ | refine q08 ?_ | refine q09 ?_ | refine q10 ?_ | refine q11 ?_ | refine q12 ?_ | refine q13 ?_ | refine q14 ?_ | refine q15 ?_ | refine q16 ?_ | refine q17 ?_ | refine And.intro (by omega) ?_) | (with_reducible refine At.fn_ret (by simp -dsimp [hlt, hs]; exact rfl) ?_) | (with_reducible refine At.fn_end (by simp -dsimp [hlt, hs]; exact rfl) ?_) | (refine DT_regionM (id := 6) (nt := 39) 11 [0, 1, 2, 3, 4, 5, 20, 25, 38] mixed rfl (by kernel_rfl) ?_; simp -dsimp [hlt, hs]) | (with_reducible refine DT_regionE [0, 1, 2, 3, 4, 5, 20, 25, 38] ?_; simp -dsimp [hlt, hs]) | (refine DT_cond rfl (fun h => ?_) (fun h => ?_) <;> (try simp only [nrm] at h) <;> (try exact Bool.noConfusion h)) | (with_reducible refine GStop_split ?_ ?_ <;> intro h <;> have h0 := h <;> (try simp only [nrm] at h) <;> (try exact Bool.noConfusion h) <;> have h2 := h <;> (try simp at h2) <;> (replace hs := And.intro h0 (And.intro h (And.intro h2 hs))) <;> simp -dsimp [h0, h, h2, hlt, hs]) | (with_reducible refine imp_At (fun h => ?_); (try simp only [List.map_eq_nil_iff] at h); (try subst h); try simp -dsimp [hlt, hs]) | with_reducible refine And.intro ?_ ?_
    all_goals try simp -dsimp [hlt, hs]
    all_goals try clear hs
theorem twin3_c (n : Notes) (hs : SmallN n) (objs : List DObj) : DCall Tryd.prog G 17 [notesv n] objs (fun rr objs' => rr = notesv n ∧ objs' = objs) := by
  refine DCall.frame ?_ (by simp) (by simp) objs
  refine DCall_intro Tryd.func17 rfl Tryd.ntmps17 (by simp) rfl ?_
  try simp only [notesv]
  have c1 := twin_c (G := G) n.reg hs.1
  have hl := hs.2
  have hs : True := trivial
  repeat' first | (with_reducible first | refine q01 ?_ | refine q02 ?_ | refine q03 ?_ | refine q04 ?_ | refine q05 ?_ | refine q06 ?_ | refine q07 (by decide) ?_ | refine q08 ?_ | refine q09 ?_ | refine q10 ?_ | refine q11 ?_ | refine q12 ?_ | refine q13 ?_ | refine q14 ?_ | refine q15 ?_ | refine q16 ?_ | refine q17 ?_ | refine And.intro (by omega) ?_) | (with_reducible refine At.fn_ret (by simp -dsimp [hs]; exact rfl) ?_) | (with_reducible refine At.fn_end (by simp -dsimp [hs]; exact rfl) ?_) | (refine QCall_pure (c1) ?_; try simp -dsimp [hs]) | (refine DT_regionM (id := 1) (nt := 11) 8 [0, 1, 2] mixed rfl (by kernel_rfl) ?_; simp -dsimp [hs]) | (with_reducible refine DT_regionE [0, 1, 2] ?_; simp -dsimp [hs]) | (refine DT_cond rfl (fun h => ?_) (fun h => ?_) <;> (try simp only [nrm] at h) <;> (try exact Bool.noConfusion h)) | (with_reducible refine GStop_split ?_ ?_ <;> intro h <;> have h0 := h <;> (try simp only [nrm] at h) <;> (try exact Bool.noConfusion h) <;> have h2 := h <;> (try simp at h2) <;> (replace hs := And.intro h0 (And.intro h (And.intro h2 hs))) <;> simp -dsimp [h0, h, h2, hs]) | (with_reducible refine imp_At (fun h => ?_); (try simp only [List.map_eq_nil_iff] at h); (try subst h); try simp -dsimp [hs]) | with_reducible refine And.intro ?_ ?_
  all_goals try simp -dsimp [hs]
  all_goals try clear hs
end Go.Proofs
namespace Go.Ab
open Go
def encB (b : Bool) : List IC := [rB b]
def bsv (l : List Bool) : DV := .one (.im (.sl (l.map encB)))
attribute [simp] encB bsv
def byK (l : List Note) (b : List Bool) (d : Int) : Nat → Int
  | 0 => -1
  | k + 1 => if b[k]? = some true ∧ (l[k]?.map (·.drawing)) = some d then (k : Int) else byK l b d k
theorem byK_lt (l : List Note) (b : List Bool) (d : Int) : ∀ k, -1 ≤ byK l b d k ∧ byK l b d k < k
  | 0 => by simp [byK]
  | k + 1 => by
    have := byK_lt l b d k
    unfold byK
    split <;> omega
def letterK (l : List Note) (b : List Bool) (d : Int) : Int := if byK l b d b.length < 0 then 1 else match l[(byK l b d b.length).toNat]? with | some x => x.letter | none => 0
end Go.Ab
namespace Go.Proofs
open Go Go.Ab
set_option linter.unusedSimpArgs false
variable {G : Nat → Option (List IC)}
theorem by3_c (n : Notes) (b : List Bool) (d : Int) (hb : b.length = n.notes.length) (hl : n.notes.length < 1000) (objs : List DObj) : DCall Tryd.prog G 60 [notesv n, bsv b, iv d] objs (fun rr objs' => rr = iv (byK n.notes b d b.length) ∧ objs' = objs) := by
  refine DCall.frame ?_ (by simp) (by simp) objs
  refine DCall_intro Tryd.func60 rfl Tryd.ntmps60 (by simp) rfl ?_
  try simp only [notesv, iv]
  simp only [bsv]
  have hs : True := trivial
  repeat' first | (with_reducible first | refine q01 ?_ | refine q02 ?_ | refine q03 ?_ | refine q04 ?_ | refine q05 ?_ | refine q06 ?_ | refine q07 (by decide) ?_ | refine q08 ?_ | refine q09 ?_ | refine q10 ?_ | refine q11 ?_ | refine q12 ?_ | refine q13 ?_ | refine q14 ?_ | refine q15 ?_ | refine q16 ?_ | refine q17 ?_ | refine And.intro (by omega) ?_) | (with_reducible refine At.fn_ret (by simp -dsimp [hs]; exact rfl) ?_) | (with_reducible refine At.fn_end (by simp -dsimp [hs]; exact rfl) ?_) | (with_reducible refine DT_regionE [0, 1, 2, 3, 6, 7, 8, 12, 28] ?_; simp -dsimp [hs]) | (refine DT_cond rfl (fun h => ?_) (fun h => ?_) <;> (try simp only [nrm] at h) <;> (try exact Bool.noConfusion h)) | (with_reducible refine GStop_split ?_ ?_ <;> intro h <;> have h0 := h <;> (try simp only [nrm] at h) <;> (try exact Bool.noConfusion h) <;> have h2 := h <;> (try simp at h2) <;> (replace hs := And.intro h0 (And.intro h (And.intro h2 hs))) <;> simp -dsimp [h0, h, h2, hs]) | (with_reducible refine imp_At (fun h => ?_); (try simp only [List.map_eq_nil_iff] at h); (try subst h); try simp -dsimp [hs]) | with_reducible refine And.intro ?_ ?_
  all_goals try simp -dsimp [hs]
  all_goals try clear hs
  refine DT_loop (ι := { k : Nat // k ≤ b.length }) (fun p => ⟨31, [(1, bsv b), (2, iv d), (3, .one (.ptr 0 0)), (6, iv 0), (7, iv (byK n.notes b d p.1)), (8, iv (p.1 : Int))], [.row ((encNotes n).map .im)]⟩) (fun p => b.length - p.1) ⟨0, by simp⟩ (Weak.of_keep [1,2,3,6,7,8] (by simp [byK])) ?_
  rintro ⟨k, hk⟩
  simp only [iv, bsv]
  by_cases hlt : k < b.length
  · have hlt2 : k < n.notes.length := by omega
    have hw : IntKind.i64.wrap ((k : Int) + 1) = ((k + 1 : Nat) : Int) := i64w (by omega) (by omega)
    have hst : byK n.notes b d (k + 1) = if b[k] = true ∧ n.notes[k].drawing = d then (k : Int) else byK n.notes b d k := by
      rw [byK, List.getElem?_eq_getElem hlt, List.getElem?_eq_getElem hlt2]; simp
    generalize hx : n.notes[k] = x at *
    generalize hy : b[k] = y at *
    cases y
    · simp at hst
      have hs : True := trivial
      repeat' first | (with_reducible first | refine q01 ?_ | refine q02 ?_ | refine q03 ?_ | refine q04 ?_ | refine q05 ?_ | refine q06 ?_ | refine q07 (by decide) ?_ | refine q08 ?_ | refine q09 ?_ | refine q10 ?_ | refine q11 ?_ | refine q12 ?_ | refine q13 ?_ | refine q14 ?_ | refine q15 ?_ | refine q16 ?_ | refine q17 ?_ | refine And.intro (by omega) ?_) | (with_reducible refine At.fn_ret (by simp -dsimp [hx, hy, hlt, hlt2, hw, hs]; exact rfl) ?_) | (with_reducible refine At.fn_end (by simp -dsimp [hx, hy, hlt, hlt2, hw, hs]; exact rfl) ?_) | (with_reducible refine DT_regionE [0, 1, 2, 3, 6, 7, 8, 12, 28] ?_; simp -dsimp [hx, hy, hlt, hlt2, hw, hs]) | (refine DT_cond rfl (fun h => ?_) (fun h => ?_) <;> (try simp only [nrm] at h) <;> (try exact Bool.noConfusion h)) | (with_reducible refine GStop_split ?_ ?_ <;> intro h <;> have h0 := h <;> (try simp only [nrm] at h) <;> (try exact Bool.noConfusion h) <;> have h2 := h <;> (try simp at h2) <;> (replace hs := And.intro h0 (And.intro h (And.intro h2 hs))) <;> simp -dsimp [h0, h, h2, hx, hy, hlt, hlt2, hw, hs]) | (with_reducible refine imp_At (fun h => ?_); (try simp only [List.map_eq_nil_iff] at h); (try subst h); try simp -dsimp [hx, hy, hlt, hlt2, hw, hs]) | with_reducible refine And.intro ?_ ?_
      all_goals try simp -dsimp [hx, hy, hlt, hlt2, hw, hs]
      all_goals try clear hs
      exact At.round ⟨k + 1, by omega⟩ (by simp; omega) (Weak.of_keep [1,2,3,6,7,8] (by simp [hst]))
    · simp at hst
      have hs : True := trivial
      repeat' first | (with_reducible first | refine q01 ?_ | refine q02 ?_ | refine q03 ?_ | refine q04 ?_ | refine q05 ?_ | refine q06 ?_ | refine q07 (by decide) ?_ | refine q08 ?_ | refine q09 ?_ | refine q10 ?_ | refine q11 ?_ | refine q12 ?_ | refine q13 ?_ | refine q14 ?_ | refine q15 ?_ | refine q16 ?_ | refine q17 ?_ | refine And.intro (by omega) ?_) | (with_reducible refine At.fn_ret (by simp -dsimp [hx, hy, hlt, hlt2, hw, hs]; exact rfl) ?_) | (with_reducible refine At.fn_end (by simp -dsimp [hx, hy, hlt, hlt2, hw, hs]; exact rfl) ?_) | (with_reducible refine DT_regionE [0, 1, 2, 3, 6, 7, 8, 12, 28] ?_; simp -dsimp [hx, hy, hlt, hlt2, hw, hs]) | (refine DT_cond rfl (fun h => ?_) (fun h => ?_) <;> (try simp only [nrm] at h) <;> (try exact Bool.noConfusion h)) | (with_reducible refine GStop_split ?_ ?_ <;> intro h <;> have h0 := h <;> (try simp only [nrm] at h) <;> (try exact Bool.noConfusion h) <;> have h2 := h <;> (try simp at h2) <;> (replace hs := And.intro h0 (And.intro h (And.intro h2 hs))) <;> simp -dsimp [h0, h, h2, hx, hy, hlt, hlt2, hw, hs]) | (with_reducible refine imp_At (fun h => ?_); (try simp only [List.map_eq_nil_iff] at h); (try subst h); try simp -dsimp [hx, hy, hlt, hlt2, hw, hs]) | with_reducible refine And.intro ?_ ?_
      all_goals try simp -dsimp [hx, hy, hlt, hlt2, hw, hs]
      all_goals try clear hs
      · exact At.round ⟨k + 1, by omega⟩ (by simp; omega) (Weak.of_keep [1,2,3,6,7,8] (by simp_all))
      · exact At.round ⟨k + 1, by omega⟩ (by simp; omega) (Weak.of_keep [1,2,3,6,7,8] (by simp_all))
  · have e : k = b.length := by omega
    have hs : True := trivial
    repeat' first | (with_reducible first | refine q01 ?_ | refine q02 ?_ | refine q03 ?_ | refine q04 ?_ | refine q05 ?_ | refine q06 ?_ | refine q07 (by decide) ?_ | refine q08 ?_ | refine q09 ?_ | refine q10 ?_ | refine q11 ?_ | refine q12 ?_ | refine q13 ?_ | refine q14 ?_ | refine q15 ?_ | refine q16 ?_ | refine q17 ?_ | refine And.intro (by omega) ?_) | (with_reducible refine At.fn_ret (by simp -dsimp [hlt, hs]; exact rfl) ?_) | (with_reducible refine At.fn_end (by simp -dsimp [hlt, hs]; exact rfl) ?_) | (with_reducible refine DT_regionE [0, 1, 2, 3, 6, 7, 8, 12, 28] ?_; simp -dsimp [hlt, hs]) | (refine DT_cond rfl (fun h => ?_) (fun h => ?_) <;> (try simp only [nrm] at h) <;> (try exact Bool.noConfusion h)) | (with_reducible refine GStop_split ?_ ?_ <;> intro h <;> have h0 := h <;> (try simp only [nrm] at h) <;> (try exact Bool.noConfusion h) <;> have h2 := h <;> (try simp at h2) <;> (replace hs := And.intro h0 (And.intro h (And.intro h2 hs))) <;> simp -dsimp [h0, h, h2, hlt, hs]) | (with_reducible refine imp_At (fun h => ?_); (try simp only [List.map_eq_nil_iff] at h); (try subst h); try simp -dsimp [hlt, hs]) | with_reducible refine And.intro ?_ ?_
    all_goals try simp -dsimp [hlt, hs]
    all_goals try clear hs
    try simp [e]
end Go.Proofs
namespace Go.Proofs
open Go Go.Ab
set_option linter.unusedSimpArgs false
variable {G : Nat → Option (List IC)}
theorem letter3_c (n : Notes) (b : List Bool) (d : Int) (hb : b.length = n.notes.length) (hl : n.notes.length < 1000) (objs : List DObj) : DCall Tryd.prog G 64 [notesv n, bsv b, iv d] objs (fun rr objs' => rr = iv (letterK n.notes b d) ∧ objs' = objs) := by
  refine DCall.frame ?_ (by simp) (by simp) objs
  refine DCall_intro Tryd.func64 rfl Tryd.ntmps64 (by simp) rfl ?_
  try simp only [notesv, iv]
  simp only [bsv]
  have c1 := by3_c (G := G) n b d hb hl
  have hlt := byK_lt n.notes b d b.length
  simp only [bsv] at c1
  unfold letterK
  generalize byK n.notes b d b.length = m at *
  by_cases h00 : m < 0
  · have h01 : ¬ 0 ≤ m := by omega
    have hs : True := trivial
    repeat' first | (with_reducible first | refine q01 ?_ | refine q02 ?_ | refine q03 ?_ | refine q04 ?_ | refine q05 ?_ | refine q06 ?_ | refine q07 (by decide) ?_ | refine q08 ?_ | refine q09 ?_ | refine q10 ?_ | refine q11 ?_ | refine q12 ?_ | refine q13 ?_ | refine q14 ?_ | refine q15 ?_ | refine q16 ?_ | refine q17 ?_ | refine And.intro (by omega) ?_) | (with_reducible refine At.fn_ret (by simp -dsimp [h00, h01, hs]; exact rfl) ?_) | (with_reducible refine At.fn_end (by simp -dsimp [h00, h01, hs]; exact rfl) ?_) | (refine CallE.pure (c1) ?_; try simp -dsimp [h00, h01, hs]) | (with_reducible refine DT_regionE [0, 1, 2, 3, 6, 7, 13] ?_; simp -dsimp [h00, h01, hs]) | (refine DT_cond rfl (fun h => ?_) (fun h => ?_) <;> (try simp only [nrm] at h) <;> (try exact Bool.noConfusion h)) | (with_reducible refine GStop_split ?_ ?_ <;> intro h <;> have h0 := h <;> (try simp only [nrm] at h) <;> (try exact Bool.noConfusion h) <;> have h2 := h <;> (try simp at h2) <;> (replace hs := And.intro h0 (And.intro h (And.intro h2 hs))) <;> simp -dsimp [h0, h, h2, h00, h01, hs]) | (with_reducible refine imp_At (fun h => ?_); (try simp only [List.map_eq_nil_iff] at h); (try subst h); try simp -dsimp [h00, h01, hs]) | with_reducible refine And.intro ?_ ?_
    all_goals try simp -dsimp [h00, h01, hs]
    all_goals try clear hs
    all_goals try omega
  · obtain ⟨j, rfl⟩ := Int.eq_ofNat_of_zero_le (show 0 ≤ m by omega)
    have hj : j < n.notes.length := by omega
    have hs : True := trivial
    repeat' first | (with_reducible first | refine q01 ?_ | refine q02 ?_ | refine q03 ?_ | refine q04 ?_ | refine q05 ?_ | refine q06 ?_ | refine q07 (by decide) ?_ | refine q08 ?_ | refine q09 ?_ | refine q10 ?_ | refine q11 ?_ | refine q12 ?_ | refine q13 ?_ | refine q14 ?_ | refine q15 ?_ | refine q16 ?_ | refine q17 ?_ | refine And.intro (by omega) ?_) | (with_reducible refine At.fn_ret (by simp -dsimp [h00, hj, hs]; exact rfl) ?_) | (with_reducible refine At.fn_end (by simp -dsimp [h00, hj, hs]; exact rfl) ?_) | (refine CallE.pure (c1) ?_; try simp -dsimp [h00, hj, hs]) | (with_reducible refine DT_regionE [0, 1, 2, 3, 6, 7, 13] ?_; simp -dsimp [h00, hj, hs]) | (refine DT_cond rfl (fun h => ?_) (fun h => ?_) <;> (try simp only [nrm] at h) <;> (try exact Bool.noConfusion h)) | (with_reducible refine GStop_split ?_ ?_ <;> intro h <;> have h0 := h <;> (try simp only [nrm] at h) <;> (try exact Bool.noConfusion h) <;> have h2 := h <;> (try simp at h2) <;> (replace hs := And.intro h0 (And.intro h (And.intro h2 hs))) <;> simp -dsimp [h0, h, h2, h00, hj, hs]) | (with_reducible refine imp_At (fun h => ?_); (try simp only [List.map_eq_nil_iff] at h); (try subst h); try simp -dsimp [h00, hj, hs]) | with_reducible refine And.intro ?_ ?_
    all_goals try simp -dsimp [h00, hj, hs]
    all_goals try clear hs
theorem known3_c (n : Notes) (d : Int) (hl : n.reg.length < 1000) (objs : List DObj) : DCall Tryd.prog G 59 [notesv n, iv d] objs (fun rr objs' => rr = bv (decide (d ∈ nums n.reg)) ∧ objs' = objs) := by
  refine DCall.frame ?_ (by simp) (by simp) objs
  refine DCall_intro Tryd.func59 rfl Tryd.ntmps59 (by simp) rfl ?_
  try simp only [notesv, iv]
  have c1 := numbers_c (G := G) n.reg (by omega)
  have c2 := has3_c (G := G) (nums n.reg) d (by have := numsTo_length n.reg n.reg.length; unfold nums; omega)
  have hs : True := trivial
  repeat' first | (with_reducible first | refine q01 ?_ | refine q02 ?_ | refine q03 ?_ | refine q04 ?_ | refine q05 ?_ | refine q06 ?_ | refine q07 (by decide) ?_ | refine q08 ?_ | refine q09 ?_ | refine q10 ?_ | refine q11 ?_ | refine q12 ?_ | refine q13 ?_ | refine q14 ?_ | refine q15 ?_ | refine q16 ?_ | refine q17 ?_ | refine And.intro (by omega) ?_) | (with_reducible refine At.fn_ret (by simp -dsimp [hs]; exact rfl) ?_) | (with_reducible refine At.fn_end (by simp -dsimp [hs]; exact rfl) ?_) | (refine CallE.pure (c1) ?_; try simp -dsimp [hs]) | (refine CallE.pure (c2) ?_; try simp -dsimp [hs]) | (with_reducible refine DT_regionE [0, 1, 2, 4] ?_; simp -dsimp [hs]) | (refine DT_cond rfl (fun h => ?_) (fun h => ?_) <;> (try simp only [nrm] at h) <;> (try exact Bool.noConfusion h)) | (with_reducible refine GStop_split ?_ ?_ <;> intro h <;> have h0 := h <;> (try simp only [nrm] at h) <;> (try exact Bool.noConfusion h) <;> have h2 := h <;> (try simp at h2) <;> (replace hs := And.intro h0 (And.intro h (And.intro h2 hs))) <;> simp -dsimp [h0, h, h2, hs]) | (with_reducible refine imp_At (fun h => ?_); (try simp only [List.map_eq_nil_iff] at h); (try subst h); try simp -dsimp [hs]) | with_reducible refine And.intro ?_ ?_
  all_goals try simp -dsimp [hs]
  all_goals try clear hs
end Go.Proofs
