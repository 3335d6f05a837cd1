/- Part 30 of the proof whose last text closes the card: laws and walks that hold without conditions beyond those that each theorem names. -/
import Derived.Shelf.Sort.Plain
import Derived.Shelf.Slices.In.SortNone
import Derived.Ground.NamesProg
import Derived.Shelf.Lays
import Derived.Test.YtmonmfpdckdoiaaDoorB22
import Derived.Test.YtmonmfpdckdoiaaDoorB25
import Derived.Test.YtmonmfpdckdoiaaDoorB27
import Derived.Test.YtmonmfpdckdoiaaDoorB28
import Derived.Test.YtmonmfpdckdoiaaDoorB29
set_option linter.all false
set_option linter.deprecated false
namespace Go.Proofs
open Go Go.Ab
set_option linter.unusedSimpArgs false
variable {G : Nat → Option (List IC)}
def lettersK (n : Notes) (s : List Int) (m : Int) : List Int := (nums n.reg).map fun d => letterK n.notes (frcL s [] m n.notes) d
set_option maxHeartbeats 1000000 in
theorem letters3_c (n : Notes) (s : List Int) (m : Int) (hl : n.notes.length < 1000) (hr : n.reg.length < 1000) (hsl : s.length < 1000) (objs : List DObj) : DCall Tryd.prog G 56 [notesv n, isv s, iv m] objs (fun rr objs' => rr = isv (lettersK n s m) ∧ objs' = objs) := by
  refine DCall.frame ?_ (by simp) (by simp) objs
  refine DCall_intro Tryd.func56 rfl Tryd.ntmps56 (by simp) rfl ?_
  try simp only [notesv, isv, iv]
  have c1 := force3_c (G := G) n s [] m hl hsl (by simp)
  have c2 := numbers_c (G := G) n.reg (by omega)
  have hFl := frcL_len s [] m n.notes
  have c3 := fun d => letter3_c (G := G) n (frcL s [] m n.notes) d hFl hl
  have hrl := numsTo_length n.reg n.reg.length
  rw [show numsTo n.reg n.reg.length = nums n.reg from rfl] at hrl
  have hE : lettersK n s m = (nums n.reg).map fun d => letterK n.notes (frcL s [] m n.notes) d := rfl
  generalize frcL s [] m n.notes = F at *
  simp only [isv, List.map_nil] at c1
  have hs : True := trivial
  repeat' first | (with_reducible first | refine q01 ?_ | refine q02 ?_ | refine q03 ?_ | refine q04 ?_ | refine q05 ?_ | refine q06 ?_ | refine q07 (by decide) ?_ | refine q08 ?_ | refine q09 ?_ | refine q10 ?_ | refine q11 ?_ | refine q12 ?_ | refine q13 ?_ | refine q14 ?_ | refine q15 ?_ | refine q16 ?_ | refine q17 ?_ | refine And.intro (by omega) ?_) | (with_reducible refine At.fn_ret (by simp -dsimp [hs]; exact rfl) ?_) | (with_reducible refine At.fn_end (by simp -dsimp [hs]; exact rfl) ?_) | (refine CallE.pure (c1) ?_; try simp -dsimp [hs]) | (refine CallE.pure (c2) ?_; try simp -dsimp [hs]) | (refine DT_regionM (id := 7) (nt := 35) 9 [0, 1, 2, 3, 6, 7, 8, 9, 10, 21] mixed rfl (by kernel_rfl) ?_; simp -dsimp [hs]) | (with_reducible refine DT_regionE [0, 1, 2, 3, 6, 7, 8, 9, 10, 21] ?_; simp -dsimp [hs]) | (refine DT_cond rfl (fun h => ?_) (fun h => ?_) <;> (try simp only [nrm] at h) <;> (try exact Bool.noConfusion h)) | (with_reducible refine GStop_split ?_ ?_ <;> intro h <;> have h0 := h <;> (try simp only [nrm] at h) <;> (try exact Bool.noConfusion h) <;> have h2 := h <;> (try simp at h2) <;> (replace hs := And.intro h0 (And.intro h (And.intro h2 hs))) <;> simp -dsimp [h0, h, h2, hs]) | (with_reducible refine imp_At (fun h => ?_); (try simp only [List.map_eq_nil_iff] at h); (try subst h); try simp -dsimp [hs]) | with_reducible refine And.intro ?_ ?_
  all_goals try simp -dsimp [hs]
  all_goals try clear hs
  generalize hP : (fun d => letterK n.notes F d) = P at *
  have hPd : ∀ d, letterK n.notes F d = P d := fun d => by rw [← hP]
  generalize hns : nums n.reg = ns at *
  refine DT_loop (ι := { p : Nat × Nat × Bool // p.1 ≤ ns.length }) (fun p => ⟨35, [(3, .one (.ptr 0 0)), (7, bsv F), (8, .one (.vec 2 p.1.2.1 0 ((ns.take p.1.1).map P).length)), (9, isv ns), (10, iv (p.1.1 : Int))], [.row ((encNotes n).map .im), .vec 1 [] 0 true, .vec 1 (ims (((ns.take p.1.1).map P).map encI)) p.1.2.1 p.1.2.2]⟩) (fun p => ns.length - p.1.1) ⟨(0, 0, true), by simp⟩ (Weak.of_keep [3,7,8,9,10] (by simp)) ?_
  rintro ⟨⟨k, g, nl⟩, hk⟩
  simp only at hk
  simp only [iv, isv, bsv]
  have hlk : ((ns.take k).map P).length = k := by simp; omega
  by_cases hlt : k < ns.length
  · have hw : IntKind.i64.wrap ((k : Int) + 1) = ((k + 1 : Nat) : Int) := i64w (by omega) (by omega)
    have hst : (ns.take (k + 1)).map P = (ns.take k).map P ++ [P ns[k]] := by rw [List.take_succ_eq_append_getElem hlt, List.map_append, List.map_singleton]
    generalize hx : ns[k] = x at *
    have c4 := c3 x
    rw [hPd] at c4
    simp only [bsv] at c4
    generalize (ns.take k).map P = L at *
    subst hlk
    have hs : True := trivial
    repeat' first | (with_reducible first | refine q01 ?_ | refine q02 ?_ | refine q03 ?_ | refine q04 ?_ | refine q05 ?_ | refine q06 ?_ | refine q07 (by decide) ?_ | refine q08 ?_ | refine q09 ?_ | refine q10 ?_ | refine q11 ?_ | refine q12 ?_ | refine q13 ?_ | refine q14 ?_ | refine q15 ?_ | refine q16 ?_ | refine q17 ?_ | refine And.intro (by omega) ?_) | (with_reducible refine At.fn_ret (by simp -dsimp [hx, hlt, hw, hs]; exact rfl) ?_) | (with_reducible refine At.fn_end (by simp -dsimp [hx, hlt, hw, hs]; exact rfl) ?_) | (refine CallE.pure (c4) ?_; try simp -dsimp [hx, hlt, hw, hs]) | (refine QCall_pure (c4) ?_; try simp -dsimp [hx, hlt, hw, hs]) | (refine DT_regionM (id := 7) (nt := 35) 9 [0, 1, 2, 3, 6, 7, 8, 9, 10, 21] mixed rfl (by kernel_rfl) ?_; simp -dsimp [hx, hlt, hw, hs]) | (with_reducible refine DT_regionE [0, 1, 2, 3, 6, 7, 8, 9, 10, 21] ?_; simp -dsimp [hx, hlt, hw, hs]) | (refine DT_cond rfl (fun h => ?_) (fun h => ?_) <;> (try simp only [nrm] at h) <;> (try exact Bool.noConfusion h)) | (with_reducible refine GStop_split ?_ ?_ <;> intro h <;> have h0 := h <;> (try simp only [nrm] at h) <;> (try exact Bool.noConfusion h) <;> have h2 := h <;> (try simp at h2) <;> (replace hs := And.intro h0 (And.intro h (And.intro h2 hs))) <;> simp -dsimp [h0, h, h2, hx, hlt, hw, hs]) | (with_reducible refine imp_At (fun h => ?_); (try simp only [List.map_eq_nil_iff] at h); (try subst h); try simp -dsimp [hx, hlt, hw, hs]) | with_reducible refine And.intro ?_ ?_
    all_goals try simp -dsimp [hx, hlt, hw, hs]
    all_goals try clear hs
    all_goals exact At.round ⟨(L.length + 1, g + 1, false), by simp only; omega⟩ (by simp; omega) (Weak.of_drop [3,7,8,9,10] 3 (by simp) (by simp) (by simp [hst]))
  · obtain rfl : k = ns.length := by omega
    rw [List.take_length] at hlk ⊢
    have hs : True := trivial
    repeat' first | (with_reducible first | refine q01 ?_ | refine q02 ?_ | refine q03 ?_ | refine q04 ?_ | refine q05 ?_ | refine q06 ?_ | refine q07 (by decide) ?_ | refine q08 ?_ | refine q09 ?_ | refine q10 ?_ | refine q11 ?_ | refine q12 ?_ | refine q13 ?_ | refine q14 ?_ | refine q15 ?_ | refine q16 ?_ | refine q17 ?_ | refine And.intro (by omega) ?_) | (with_reducible refine At.fn_ret (by simp -dsimp [hlt, hs]; exact rfl) ?_) | (with_reducible refine At.fn_end (by simp -dsimp [hlt, hs]; exact rfl) ?_) | (refine DT_regionM (id := 7) (nt := 35) 9 [0, 1, 2, 3, 6, 7, 8, 9, 10, 21] mixed rfl (by kernel_rfl) ?_; simp -dsimp [hlt, hs]) | (with_reducible refine DT_regionE [0, 1, 2, 3, 6, 7, 8, 9, 10, 21] ?_; simp -dsimp [hlt, hs]) | (refine DT_cond rfl (fun h => ?_) (fun h => ?_) <;> (try simp only [nrm] at h) <;> (try exact Bool.noConfusion h)) | (with_reducible refine GStop_split ?_ ?_ <;> intro h <;> have h0 := h <;> (try simp only [nrm] at h) <;> (try exact Bool.noConfusion h) <;> have h2 := h <;> (try simp at h2) <;> (replace hs := And.intro h0 (And.intro h (And.intro h2 hs))) <;> simp -dsimp [h0, h, h2, hlt, hs]) | (with_reducible refine imp_At (fun h => ?_); (try simp only [List.map_eq_nil_iff] at h); (try subst h); try simp -dsimp [hlt, hs]) | with_reducible refine And.intro ?_ ?_
    all_goals try simp -dsimp [hlt, hs]
    all_goals try clear hs
    simp [hE]
set_option maxHeartbeats 1000000 in
theorem rForce_c (n : Notes) (s : List Int) (m : Int) (hs : NSm n) (hsl : s.length < 1000) (objs : List DObj) : DCall Tryd.prog G 19 [notesv n, isv s, iv m] objs (fun rr objs' => rr = .tup [isv (if askedE n s m = 0 then inT n.notes (frcL s [] m n.notes) n.notes.length else []), iv (askedE n s m)] ∧ objs' = objs) := by
  refine DCall.frame ?_ (by simp) (by simp) objs
  refine DCall_intro Tryd.func19 rfl Tryd.ntmps19 (by simp) rfl ?_
  try simp only [notesv, isv, iv]
  have c1 := asked3_c (G := G) n s m hs hsl
  have hn16 := hs.2.1
  by_cases h0 : askedE n s m = 0
  · rw [h0] at c1
    have c2 := force3_c (G := G) n s [] m (by omega) hsl (by simp)
    have hFl := frcL_len s [] m n.notes
    rw [if_pos h0]
    generalize frcL s [] m n.notes = F at *
    simp only [isv, List.map_nil] at c2
    have hs : True := trivial
    repeat' first | (with_reducible first | refine q01 ?_ | refine q02 ?_ | refine q03 ?_ | refine q04 ?_ | refine q05 ?_ | refine q06 ?_ | refine q07 (by decide) ?_ | refine q08 ?_ | refine q09 ?_ | refine q10 ?_ | refine q11 ?_ | refine q12 ?_ | refine q13 ?_ | refine q14 ?_ | refine q15 ?_ | refine q16 ?_ | refine q17 ?_ | refine And.intro (by omega) ?_) | (with_reducible refine At.fn_ret (by simp -dsimp [hs]; exact rfl) ?_) | (with_reducible refine At.fn_end (by simp -dsimp [hs]; exact rfl) ?_) | (refine CallE.pure (c1) ?_; try simp -dsimp [hs]) | (refine CallE.pure (c2) ?_; try simp -dsimp [hs]) | (with_reducible refine DT_regionE [0, 1, 2, 3, 6, 7, 8, 9, 10, 11, 17, 26, 32] ?_; simp -dsimp [hs]) | (refine DT_cond rfl (fun h => ?_) (fun h => ?_) <;> (try simp only [nrm] at h) <;> (try exact Bool.noConfusion h)) | (with_reducible refine GStop_split ?_ ?_ <;> intro h <;> have h0 := h <;> (try simp only [nrm] at h) <;> (try exact Bool.noConfusion h) <;> have h2 := h <;> (try simp at h2) <;> (replace hs := And.intro h0 (And.intro h (And.intro h2 hs))) <;> simp -dsimp [h0, h, h2, hs]) | (with_reducible refine imp_At (fun h => ?_); (try simp only [List.map_eq_nil_iff] at h); (try subst h); try simp -dsimp [hs]) | with_reducible refine And.intro ?_ ?_
    all_goals try simp -dsimp [hs]
    all_goals try clear hs
    refine DT_loop (ι := { p : Nat × Nat × Bool // p.1 ≤ F.length }) (fun p => ⟨43, [(3, .one (.ptr 0 0)), (9, .one (.vec 2 p.1.2.1 0 (inT n.notes F p.1.1).length)), (10, bsv F), (11, iv (p.1.1 : Int))], [.row ((encNotes n).map .im), .vec 1 [] 0 true, .vec 1 (ims ((inT n.notes F p.1.1).map encI)) p.1.2.1 p.1.2.2]⟩) (fun p => F.length - p.1.1) ⟨(0, 0, true), by simp⟩ (Weak.of_keep [3,9,10,11] (by simp [inT_zero])) ?_
    rintro ⟨⟨k, g, nl⟩, hk⟩
    simp only at hk
    simp only [iv, bsv]
    have hlk := inT_len n.notes F k
    by_cases hlt : k < F.length
    · have hw : IntKind.i64.wrap ((k : Int) + 1) = ((k + 1 : Nat) : Int) := i64w (by omega) (by omega)
      have hlt2 : k < n.notes.length := by omega
      have hst := inT_succ hlt2 hlt
      generalize hx : n.notes[k] = x at *
      generalize hb : F[k] = b at *
      generalize inT n.notes F k = L at *
      cases b
      · have e := hst.trans (by rw [if_neg Bool.false_ne_true, List.append_nil])
        have hs : True := trivial
        repeat' first | (with_reducible first | refine q01 ?_ | refine q02 ?_ | refine q03 ?_ | refine q04 ?_ | refine q05 ?_ | refine q06 ?_ | refine q07 (by decide) ?_ | refine q08 ?_ | refine q09 ?_ | refine q10 ?_ | refine q11 ?_ | refine q12 ?_ | refine q13 ?_ | refine q14 ?_ | refine q15 ?_ | refine q16 ?_ | refine q17 ?_ | refine And.intro (by omega) ?_) | (with_reducible refine At.fn_ret (by simp -dsimp [hx, hb, hlt, hlt2, hw, hs]; exact rfl) ?_) | (with_reducible refine At.fn_end (by simp -dsimp [hx, hb, hlt, hlt2, hw, hs]; exact rfl) ?_) | (with_reducible refine DT_regionE [0, 1, 2, 3, 6, 7, 8, 9, 10, 11, 17, 26, 32] ?_; simp -dsimp [hx, hb, hlt, hlt2, hw, hs]) | (refine DT_cond rfl (fun h => ?_) (fun h => ?_) <;> (try simp only [nrm] at h) <;> (try exact Bool.noConfusion h)) | (with_reducible refine GStop_split ?_ ?_ <;> intro h <;> have h0 := h <;> (try simp only [nrm] at h) <;> (try exact Bool.noConfusion h) <;> have h2 := h <;> (try simp at h2) <;> (replace hs := And.intro h0 (And.intro h (And.intro h2 hs))) <;> simp -dsimp [h0, h, h2, hx, hb, hlt, hlt2, hw, hs]) | (with_reducible refine imp_At (fun h => ?_); (try simp only [List.map_eq_nil_iff] at h); (try subst h); try simp -dsimp [hx, hb, hlt, hlt2, hw, hs]) | with_reducible refine And.intro ?_ ?_
        all_goals try simp -dsimp [hx, hb, hlt, hlt2, hw, hs]
        all_goals try clear hs
        exact At.round ⟨(k + 1, g, nl), by simp only; omega⟩ (by simp; omega) (Weak.of_drop [3,9,10,11] 3 (by simp) (by simp) (by simp [e]))
      · have e := hst.trans (by rw [if_pos rfl])
        have hs : True := trivial
        repeat' first | (with_reducible first | refine q01 ?_ | refine q02 ?_ | refine q03 ?_ | refine q04 ?_ | refine q05 ?_ | refine q06 ?_ | refine q07 (by decide) ?_ | refine q08 ?_ | refine q09 ?_ | refine q10 ?_ | refine q11 ?_ | refine q12 ?_ | refine q13 ?_ | refine q14 ?_ | refine q15 ?_ | refine q16 ?_ | refine q17 ?_ | refine And.intro (by omega) ?_) | (with_reducible refine At.fn_ret (by simp -dsimp [hx, hb, hlt, hlt2, hw, hs]; exact rfl) ?_) | (with_reducible refine At.fn_end (by simp -dsimp [hx, hb, hlt, hlt2, hw, hs]; exact rfl) ?_) | (with_reducible refine DT_regionE [0, 1, 2, 3, 6, 7, 8, 9, 10, 11, 17, 26, 32] ?_; simp -dsimp [hx, hb, hlt, hlt2, hw, hs]) | (refine DT_cond rfl (fun h => ?_) (fun h => ?_) <;> (try simp only [nrm] at h) <;> (try exact Bool.noConfusion h)) | (with_reducible refine GStop_split ?_ ?_ <;> intro h <;> have h0 := h <;> (try simp only [nrm] at h) <;> (try exact Bool.noConfusion h) <;> have h2 := h <;> (try simp at h2) <;> (replace hs := And.intro h0 (And.intro h (And.intro h2 hs))) <;> simp -dsimp [h0, h, h2, hx, hb, hlt, hlt2, hw, hs]) | (with_reducible refine imp_At (fun h => ?_); (try simp only [List.map_eq_nil_iff] at h); (try subst h); try simp -dsimp [hx, hb, hlt, hlt2, hw, hs]) | with_reducible refine And.intro ?_ ?_
        all_goals try simp -dsimp [hx, hb, hlt, hlt2, hw, hs]
        all_goals try clear hs
        exact At.round ⟨(k + 1, g + 1, false), by simp only; omega⟩ (by simp; omega) (Weak.of_drop [3,9,10,11] 3 (by simp) (by simp) (by simp [e]))
    · obtain rfl : k = n.notes.length := by omega
      have hs : True := trivial
      repeat' first | (with_reducible first | refine q01 ?_ | refine q02 ?_ | refine q03 ?_ | refine q04 ?_ | refine q05 ?_ | refine q06 ?_ | refine q07 (by decide) ?_ | refine q08 ?_ | refine q09 ?_ | refine q10 ?_ | refine q11 ?_ | refine q12 ?_ | refine q13 ?_ | refine q14 ?_ | refine q15 ?_ | refine q16 ?_ | refine q17 ?_ | refine And.intro (by omega) ?_) | (with_reducible refine At.fn_ret (by simp -dsimp [hlt, hs]; exact rfl) ?_) | (with_reducible refine At.fn_end (by simp -dsimp [hlt, hs]; exact rfl) ?_) | (with_reducible refine DT_regionE [0, 1, 2, 3, 6, 7, 8, 9, 10, 11, 17, 26, 32] ?_; simp -dsimp [hlt, hs]) | (refine DT_cond rfl (fun h => ?_) (fun h => ?_) <;> (try simp only [nrm] at h) <;> (try exact Bool.noConfusion h)) | (with_reducible refine GStop_split ?_ ?_ <;> intro h <;> have h0 := h <;> (try simp only [nrm] at h) <;> (try exact Bool.noConfusion h) <;> have h2 := h <;> (try simp at h2) <;> (replace hs := And.intro h0 (And.intro h (And.intro h2 hs))) <;> simp -dsimp [h0, h, h2, hlt, hs]) | (with_reducible refine imp_At (fun h => ?_); (try simp only [List.map_eq_nil_iff] at h); (try subst h); try simp -dsimp [hlt, hs]) | with_reducible refine And.intro ?_ ?_
      all_goals try simp -dsimp [hlt, hs]
      all_goals try clear hs
      all_goals simp [h0]
  · have hs : True := trivial
    repeat' first | (with_reducible first | refine q01 ?_ | refine q02 ?_ | refine q03 ?_ | refine q04 ?_ | refine q05 ?_ | refine q06 ?_ | refine q07 (by decide) ?_ | refine q08 ?_ | refine q09 ?_ | refine q10 ?_ | refine q11 ?_ | refine q12 ?_ | refine q13 ?_ | refine q14 ?_ | refine q15 ?_ | refine q16 ?_ | refine q17 ?_ | refine And.intro (by omega) ?_) | (with_reducible refine At.fn_ret (by simp -dsimp [h0, hs]; exact rfl) ?_) | (with_reducible refine At.fn_end (by simp -dsimp [h0, hs]; exact rfl) ?_) | (refine CallE.pure (c1) ?_; try simp -dsimp [h0, hs]) | (with_reducible refine DT_regionE [0, 1, 2, 3, 6, 7, 8, 9, 10, 11, 17, 26, 32] ?_; simp -dsimp [h0, hs]) | (refine DT_cond rfl (fun h => ?_) (fun h => ?_) <;> (try simp only [nrm] at h) <;> (try exact Bool.noConfusion h)) | (with_reducible refine GStop_split ?_ ?_ <;> intro h <;> have h0 := h <;> (try simp only [nrm] at h) <;> (try exact Bool.noConfusion h) <;> have h2 := h <;> (try simp at h2) <;> (replace hs := And.intro h0 (And.intro h (And.intro h2 hs))) <;> simp -dsimp [h0, h, h2, h0, hs]) | (with_reducible refine imp_At (fun h => ?_); (try simp only [List.map_eq_nil_iff] at h); (try subst h); try simp -dsimp [h0, hs]) | with_reducible refine And.intro ?_ ?_
    all_goals try simp -dsimp [h0, hs]
    all_goals try clear hs
    all_goals simp [h0]
theorem rLetters_c (n : Notes) (s : List Int) (m : Int) (hs : NSm n) (hsl : s.length < 1000) (objs : List DObj) : DCall Tryd.prog G 21 [notesv n, isv s, iv m] objs (fun rr objs' => rr = .tup [isv (if askedE n s m = 0 then lettersK n s m else []), iv (askedE n s m)] ∧ objs' = objs) := by
  refine DCall.frame ?_ (by simp) (by simp) objs
  refine DCall_intro Tryd.func21 rfl Tryd.ntmps21 (by simp) rfl ?_
  try simp only [notesv, isv, iv]
  have c1 := asked3_c (G := G) n s m hs hsl
  have hn16 := hs.2.1
  have hr80 := hs.1.1
  by_cases h0 : askedE n s m = 0
  · rw [h0] at c1
    have c2 := letters3_c (G := G) n s m (by omega) (by omega) hsl
    rw [if_pos h0]
    have hs : True := trivial
    repeat' first | (with_reducible first | refine q01 ?_ | refine q02 ?_ | refine q03 ?_ | refine q04 ?_ | refine q05 ?_ | refine q06 ?_ | refine q07 (by decide) ?_ | refine q08 ?_ | refine q09 ?_ | refine q10 ?_ | refine q11 ?_ | refine q12 ?_ | refine q13 ?_ | refine q14 ?_ | refine q15 ?_ | refine q16 ?_ | refine q17 ?_ | refine And.intro (by omega) ?_) | (with_reducible refine At.fn_ret (by simp -dsimp [hs]; exact rfl) ?_) | (with_reducible refine At.fn_end (by simp -dsimp [hs]; exact rfl) ?_) | (refine CallE.pure (c1) ?_; try simp -dsimp [hs]) | (refine CallE.pure (c2) ?_; try simp -dsimp [hs]) | (with_reducible refine DT_regionE [0, 1, 2, 3, 6, 7, 8, 14] ?_; simp -dsimp [hs]) | (refine DT_cond rfl (fun h => ?_) (fun h => ?_) <;> (try simp only [nrm] at h) <;> (try exact Bool.noConfusion h)) | (with_reducible refine GStop_split ?_ ?_ <;> intro h <;> have h0 := h <;> (try simp only [nrm] at h) <;> (try exact Bool.noConfusion h) <;> have h2 := h <;> (try simp at h2) <;> (replace hs := And.intro h0 (And.intro h (And.intro h2 hs))) <;> simp -dsimp [h0, h, h2, hs]) | (with_reducible refine imp_At (fun h => ?_); (try simp only [List.map_eq_nil_iff] at h); (try subst h); try simp -dsimp [hs]) | with_reducible refine And.intro ?_ ?_
    all_goals try simp -dsimp [hs]
    all_goals try clear hs
    all_goals simp [h0]
  · have hs : True := trivial
    repeat' first | (with_reducible first | refine q01 ?_ | refine q02 ?_ | refine q03 ?_ | refine q04 ?_ | refine q05 ?_ | refine q06 ?_ | refine q07 (by decide) ?_ | refine q08 ?_ | refine q09 ?_ | refine q10 ?_ | refine q11 ?_ | refine q12 ?_ | refine q13 ?_ | refine q14 ?_ | refine q15 ?_ | refine q16 ?_ | refine q17 ?_ | refine And.intro (by omega) ?_) | (with_reducible refine At.fn_ret (by simp -dsimp [h0, hs]; exact rfl) ?_) | (with_reducible refine At.fn_end (by simp -dsimp [h0, hs]; exact rfl) ?_) | (refine CallE.pure (c1) ?_; try simp -dsimp [h0, hs]) | (with_reducible refine DT_regionE [0, 1, 2, 3, 6, 7, 8, 14] ?_; simp -dsimp [h0, hs]) | (refine DT_cond rfl (fun h => ?_) (fun h => ?_) <;> (try simp only [nrm] at h) <;> (try exact Bool.noConfusion h)) | (with_reducible refine GStop_split ?_ ?_ <;> intro h <;> have h0 := h <;> (try simp only [nrm] at h) <;> (try exact Bool.noConfusion h) <;> have h2 := h <;> (try simp at h2) <;> (replace hs := And.intro h0 (And.intro h (And.intro h2 hs))) <;> simp -dsimp [h0, h, h2, h0, hs]) | (with_reducible refine imp_At (fun h => ?_); (try simp only [List.map_eq_nil_iff] at h); (try subst h); try simp -dsimp [h0, hs]) | with_reducible refine And.intro ?_ ?_
    all_goals try simp -dsimp [h0, hs]
    all_goals try clear hs
    all_goals simp [h0]
def byKn (n : Notes) (s : List Int) (m d : Int) : Int := if byK n.notes (frcL s [] m n.notes) d n.notes.length < 0 then 0 else match n.notes[(byK n.notes (frcL s [] m n.notes) d n.notes.length).toNat]? with | some x => x.number | none => 0
theorem rBy_c (n : Notes) (s : List Int) (d m : Int) (hs : NSm n) (hsl : s.length < 1000) (objs : List DObj) : DCall Tryd.prog G 23 [notesv n, isv s, iv d, iv m] objs (fun rr objs' => rr = .tup [iv (if drawnE n s m d = 0 then byKn n s m d else 0), iv (drawnE n s m d)] ∧ objs' = objs) := by
  refine DCall.frame ?_ (by simp) (by simp) objs
  refine DCall_intro Tryd.func23 rfl Tryd.ntmps23 (by simp) rfl ?_
  try simp only [notesv, isv, iv, iv]
  have c1 := asked3_c (G := G) n s m hs hsl
  have hn16 := hs.2.1
  have hr80 := hs.1.1
  have c2 := known3_c (G := G) n d (by omega)
  by_cases h0 : askedE n s m = 0
  · rw [h0] at c1
    have hE : drawnE n s m d = if d ∈ nums n.reg then 0 else 6 := by unfold drawnE; rw [if_neg (by simp [h0])]
    by_cases hd : d ∈ nums n.reg
    · rw [decide_eq_true hd] at c2
      rw [if_pos hd] at hE
      have c3 := force3_c (G := G) n s [] m (by omega) hsl (by simp)
      have hFl := frcL_len s [] m n.notes
      have c4 := by3_c (G := G) n (frcL s [] m n.notes) d hFl (by omega)
      have hlt := byK_lt n.notes (frcL s [] m n.notes) d n.notes.length
      rw [if_pos hE, byKn]
      rw [hFl] at c4
      generalize byK n.notes (frcL s [] m n.notes) d n.notes.length = z at *
      generalize frcL s [] m n.notes = F at *
      simp only [isv, bsv, List.map_nil] at c3 c4
      by_cases hz : z < 0
      · rw [if_pos hz]
        have hs : True := trivial
        repeat' first | (with_reducible first | refine q01 ?_ | refine q02 ?_ | refine q03 ?_ | refine q04 ?_ | refine q05 ?_ | refine q06 ?_ | refine q07 (by decide) ?_ | refine q08 ?_ | refine q09 ?_ | refine q10 ?_ | refine q11 ?_ | refine q12 ?_ | refine q13 ?_ | refine q14 ?_ | refine q15 ?_ | refine q16 ?_ | refine q17 ?_ | refine And.intro (by omega) ?_) | (with_reducible refine At.fn_ret (by simp -dsimp [hz, hs]; exact rfl) ?_) | (with_reducible refine At.fn_end (by simp -dsimp [hz, hs]; exact rfl) ?_) | (refine CallE.pure (c1) ?_; try simp -dsimp [hz, hs]) | (refine CallE.pure (c2) ?_; try simp -dsimp [hz, hs]) | (refine CallE.pure (c3) ?_; try simp -dsimp [hz, hs]) | (refine QCall_pure (c3) ?_; try simp -dsimp [hz, hs]) | (refine CallE.pure (c4) ?_; try simp -dsimp [hz, hs]) | (refine QCall_pure (c4) ?_; try simp -dsimp [hz, hs]) | (refine DT_regionM (id := 6) (nt := 38) 8 [0, 1, 2, 3, 4, 8, 9, 10, 11, 17, 22, 31] mixed rfl (by kernel_rfl) ?_; simp -dsimp [hz, hs]) | (with_reducible refine DT_regionE [0, 1, 2, 3, 4, 8, 9, 10, 11, 17, 22, 31] ?_; simp -dsimp [hz, hs]) | (refine DT_cond rfl (fun h => ?_) (fun h => ?_) <;> (try simp only [nrm] at h) <;> (try exact Bool.noConfusion h)) | (with_reducible refine GStop_split ?_ ?_ <;> intro h <;> have h0 := h <;> (try simp only [nrm] at h) <;> (try exact Bool.noConfusion h) <;> have h2 := h <;> (try simp at h2) <;> (replace hs := And.intro h0 (And.intro h (And.intro h2 hs))) <;> simp -dsimp [h0, h, h2, hz, hs]) | (with_reducible refine imp_At (fun h => ?_); (try simp only [List.map_eq_nil_iff] at h); (try subst h); try simp -dsimp [hz, hs]) | with_reducible refine And.intro ?_ ?_
        all_goals try simp -dsimp [hz, hs]
        all_goals try clear hs
        all_goals simp [hE]
      · rw [if_neg hz]
        obtain ⟨j, rfl⟩ := Int.eq_ofNat_of_zero_le (show 0 ≤ z by omega)
        have hj : j < n.notes.length := by omega
        have hs : True := trivial
        repeat' first | (with_reducible first | refine q01 ?_ | refine q02 ?_ | refine q03 ?_ | refine q04 ?_ | refine q05 ?_ | refine q06 ?_ | refine q07 (by decide) ?_ | refine q08 ?_ | refine q09 ?_ | refine q10 ?_ | refine q11 ?_ | refine q12 ?_ | refine q13 ?_ | refine q14 ?_ | refine q15 ?_ | refine q16 ?_ | refine q17 ?_ | refine And.intro (by omega) ?_) | (with_reducible refine At.fn_ret (by simp -dsimp [hz, hj, hs]; exact rfl) ?_) | (with_reducible refine At.fn_end (by simp -dsimp [hz, hj, hs]; exact rfl) ?_) | (refine CallE.pure (c1) ?_; try simp -dsimp [hz, hj, hs]) | (refine CallE.pure (c2) ?_; try simp -dsimp [hz, hj, hs]) | (refine CallE.pure (c3) ?_; try simp -dsimp [hz, hj, hs]) | (refine QCall_pure (c3) ?_; try simp -dsimp [hz, hj, hs]) | (refine CallE.pure (c4) ?_; try simp -dsimp [hz, hj, hs]) | (refine QCall_pure (c4) ?_; try simp -dsimp [hz, hj, hs]) | (refine DT_regionM (id := 6) (nt := 38) 8 [0, 1, 2, 3, 4, 8, 9, 10, 11, 17, 22, 31] mixed rfl (by kernel_rfl) ?_; simp -dsimp [hz, hj, hs]) | (with_reducible refine DT_regionE [0, 1, 2, 3, 4, 8, 9, 10, 11, 17, 22, 31] ?_; simp -dsimp [hz, hj, hs]) | (refine DT_cond rfl (fun h => ?_) (fun h => ?_) <;> (try simp only [nrm] at h) <;> (try exact Bool.noConfusion h)) | (with_reducible refine GStop_split ?_ ?_ <;> intro h <;> have h0 := h <;> (try simp only [nrm] at h) <;> (try exact Bool.noConfusion h) <;> have h2 := h <;> (try simp at h2) <;> (replace hs := And.intro h0 (And.intro h (And.intro h2 hs))) <;> simp -dsimp [h0, h, h2, hz, hj, hs]) | (with_reducible refine imp_At (fun h => ?_); (try simp only [List.map_eq_nil_iff] at h); (try subst h); try simp -dsimp [hz, hj, hs]) | with_reducible refine And.intro ?_ ?_
        all_goals try simp -dsimp [hz, hj, hs]
        all_goals try clear hs
        all_goals simp [hE, hj]
    · rw [decide_eq_false hd] at c2
      rw [if_neg hd] at hE
      have hs : True := trivial
      repeat' first | (with_reducible first | refine q01 ?_ | refine q02 ?_ | refine q03 ?_ | refine q04 ?_ | refine q05 ?_ | refine q06 ?_ | refine q07 (by decide) ?_ | refine q08 ?_ | refine q09 ?_ | refine q10 ?_ | refine q11 ?_ | refine q12 ?_ | refine q13 ?_ | refine q14 ?_ | refine q15 ?_ | refine q16 ?_ | refine q17 ?_ | refine And.intro (by omega) ?_) | (with_reducible refine At.fn_ret (by simp -dsimp [hs]; exact rfl) ?_) | (with_reducible refine At.fn_end (by simp -dsimp [hs]; exact rfl) ?_) | (refine CallE.pure (c1) ?_; try simp -dsimp [hs]) | (refine CallE.pure (c2) ?_; try simp -dsimp [hs]) | (refine DT_regionM (id := 6) (nt := 38) 8 [0, 1, 2, 3, 4, 8, 9, 10, 11, 17, 22, 31] mixed rfl (by kernel_rfl) ?_; simp -dsimp [hs]) | (with_reducible refine DT_regionE [0, 1, 2, 3, 4, 8, 9, 10, 11, 17, 22, 31] ?_; simp -dsimp [hs]) | (refine DT_cond rfl (fun h => ?_) (fun h => ?_) <;> (try simp only [nrm] at h) <;> (try exact Bool.noConfusion h)) | (with_reducible refine GStop_split ?_ ?_ <;> intro h <;> have h0 := h <;> (try simp only [nrm] at h) <;> (try exact Bool.noConfusion h) <;> have h2 := h <;> (try simp at h2) <;> (replace hs := And.intro h0 (And.intro h (And.intro h2 hs))) <;> simp -dsimp [h0, h, h2, hs]) | (with_reducible refine imp_At (fun h => ?_); (try simp only [List.map_eq_nil_iff] at h); (try subst h); try simp -dsimp [hs]) | with_reducible refine And.intro ?_ ?_
      all_goals try simp -dsimp [hs]
      all_goals try clear hs
      all_goals simp [hE]
  · have hE : drawnE n s m d = askedE n s m := by unfold drawnE; rw [if_pos h0]
    have hs : True := trivial
    repeat' first | (with_reducible first | refine q01 ?_ | refine q02 ?_ | refine q03 ?_ | refine q04 ?_ | refine q05 ?_ | refine q06 ?_ | refine q07 (by decide) ?_ | refine q08 ?_ | refine q09 ?_ | refine q10 ?_ | refine q11 ?_ | refine q12 ?_ | refine q13 ?_ | refine q14 ?_ | refine q15 ?_ | refine q16 ?_ | refine q17 ?_ | refine And.intro (by omega) ?_) | (with_reducible refine At.fn_ret (by simp -dsimp [h0, hs]; exact rfl) ?_) | (with_reducible refine At.fn_end (by simp -dsimp [h0, hs]; exact rfl) ?_) | (refine CallE.pure (c1) ?_; try simp -dsimp [h0, hs]) | (refine DT_regionM (id := 6) (nt := 38) 8 [0, 1, 2, 3, 4, 8, 9, 10, 11, 17, 22, 31] mixed rfl (by kernel_rfl) ?_; simp -dsimp [h0, hs]) | (with_reducible refine DT_regionE [0, 1, 2, 3, 4, 8, 9, 10, 11, 17, 22, 31] ?_; simp -dsimp [h0, hs]) | (refine DT_cond rfl (fun h => ?_) (fun h => ?_) <;> (try simp only [nrm] at h) <;> (try exact Bool.noConfusion h)) | (with_reducible refine GStop_split ?_ ?_ <;> intro h <;> have h0 := h <;> (try simp only [nrm] at h) <;> (try exact Bool.noConfusion h) <;> have h2 := h <;> (try simp at h2) <;> (replace hs := And.intro h0 (And.intro h (And.intro h2 hs))) <;> simp -dsimp [h0, h, h2, h0, hs]) | (with_reducible refine imp_At (fun h => ?_); (try simp only [List.map_eq_nil_iff] at h); (try subst h); try simp -dsimp [h0, hs]) | with_reducible refine And.intro ?_ ?_
    all_goals try simp -dsimp [h0, hs]
    all_goals try clear hs
    all_goals simp [hE, h0]
end Go.Proofs
namespace Go.Proofs
open Go Go.Ab
theorem byF_at (n : Notes) (s w : List Int) (m d : Int) : byF n s w m d n.notes.length = if byK n.notes (frcL s w m n.notes) d n.notes.length < 0 then note1 else (n.notes[(byK n.notes (frcL s w m n.notes) d n.notes.length).toNat]?).getD note1 := by
  unfold byF
  rw [byN_K _ _ _ _ (Nat.le_refl _)]
  split
  · rfl
  · split <;> simp [*]
theorem byK_get {l : List Note} {b : List Bool} {d : Int} {k : Nat} (hk : k ≤ l.length) (h : ¬ byK l b d k < 0) : (byK l b d k).toNat < l.length := by
  have := (byK_lt l b d k).2; omega
theorem letters_eq (n : Notes) (s : List Int) (m : Int) : lettersP n s m = lettersK n s m := by
  refine List.map_congr_left fun d _ => ?_
  rw [byF_at]
  unfold letterK
  rw [frcL_len]
  split
  · rfl
  · rename_i h
    have hl := byK_get (Nat.le_refl _) h
    rw [List.getElem?_eq_getElem hl]; rfl
theorem by_eq (n : Notes) (s : List Int) (m d : Int) : (byF n s [] m d n.notes.length).number = byKn n s m d := by
  rw [byF_at]
  unfold byKn
  split
  · rfl
  · rename_i h
    have hl := byK_get (Nat.le_refl _) h
    rw [List.getElem?_eq_getElem hl]; rfl
end Go.Proofs
namespace Go.Proofs
open Go Go.Ab
set_option linter.unusedSimpArgs false
variable {G : Nat → Option (List IC)}
theorem DT_freeze {P : Program} {nt : Nat} {tmps : List (Nat × DV)} {a : List DC} {es : List (List DC)} {g : Nat} {rest : List DObj} {c : Code} {Q : Exit → DS → Prop} (h : DT P G ⟨0, none⟩ c (DS.drop ⟨nt, tmps, DObj.row a :: DObj.vec 1 es g false :: rest⟩ 0) Q) : DT P G ⟨0, none⟩ c ⟨nt, tmps, DObj.row a :: DObj.vec 1 es g false :: rest⟩ Q :=
  DT_weak (Weak.drop (Nat.zero_le _) (Nat.zero_le _)) h
def NKind (n : Notes) : Prop := (∀ x ∈ n.reg, 0 ≤ x.kind ∧ x.kind ≤ 255) ∧ ∀ x ∈ n.notes, 0 ≤ x.ways ∧ x.ways ≤ 255 ∧ 0 ≤ x.signed ∧ x.signed ≤ 255
theorem NSm_of {n : Notes} (hk : NKind n) (h : smallNB n = true) : SmallN n ∧ NSm n := by
  simp only [smallNB, Bool.and_eq_true, decide_eq_true_eq] at h
  refine ⟨h, ⟨h.1.1, fun x hx => ⟨(hk.1 x hx).1, (hk.1 x hx).2, h.1.2 x hx⟩⟩, h.2, hk.2⟩
set_option maxHeartbeats 2000000 in
theorem noteForce_c (n : Notes) (s : List Int) (d m : Int) (hG : sheetG G) (hN : noteG G) (hS : SortOk G) (hk : NKind n) (objs : List DObj) : DCall Tryd.prog G 4 [notesv n, isv s, iv d, iv m] objs (fun rr objs' => rr = bv true ∧ objs' = objs) := by
  refine DCall.frame ?_ (by simp) (by simp) objs
  refine DCall_intro Tryd.func4 rfl Tryd.ntmps4 (by simp) rfl ?_
  try simp only [notesv, isv, iv, iv]
  have c1 := great3_c (G := G) n
  cases hq : smallNB n
  · rw [hq] at c1
    have hs : True := trivial
    repeat' first | (with_reducible first | refine q01 ?_ | refine q02 ?_ | refine q03 ?_ | refine q04 ?_ | refine q05 ?_ | refine q06 ?_ | refine q07 (by decide) ?_ | refine q08 ?_ | refine q09 ?_ | refine q10 ?_ | refine q11 ?_ | refine q12 ?_ | refine q13 ?_ | refine q14 ?_ | refine q15 ?_ | refine q16 ?_ | refine q17 ?_ | refine And.intro (by omega) ?_) | (with_reducible refine At.fn_ret (by simp -dsimp [hs]; exact rfl) ?_) | (with_reducible refine At.fn_end (by simp -dsimp [hs]; exact rfl) ?_) | (refine CallE.pure (c1) ?_; try simp -dsimp [hs]) | (refine QCall_pure (c1) ?_; try simp -dsimp [hs]) | (refine DT_regionM (id := 10) (nt := 124) 46 [0, 1, 2, 3, 4, 8, 9, 10, 11, 12, 13, 14, 15, 16, 17, 18, 19, 20, 21, 22, 29] mixed rfl (by kernel_rfl) ?_; simp -dsimp [hs]) | (with_reducible refine DT_regionE [0, 1, 2, 3, 4, 8, 9, 10, 11, 12, 13, 14, 15, 16, 17, 18, 19, 20, 21, 22, 29] ?_; simp -dsimp [hs]) | (refine DT_cond rfl (fun h => ?_) (fun h => ?_) <;> (try simp only [nrm] at h) <;> (try exact Bool.noConfusion h)) | (with_reducible refine GStop_split ?_ ?_ <;> intro h <;> have h0 := h <;> (try simp only [nrm] at h) <;> (try exact Bool.noConfusion h) <;> have h2 := h <;> (try simp at h2) <;> (replace hs := And.intro h0 (And.intro h (And.intro h2 hs))) <;> simp -dsimp [h0, h, h2, hs]) | (with_reducible refine imp_At (fun h => ?_); (try simp only [List.map_eq_nil_iff] at h); (try subst h); try simp -dsimp [hs]) | with_reducible refine And.intro ?_ ?_
    all_goals try simp -dsimp [hs]
    all_goals try clear hs
  · obtain ⟨hsn, hs⟩ := NSm_of hk hq
    rw [hq] at c1
    by_cases hl : 20 < s.length
    · have hli : (20 : Int) < s.length := by omega
      have hs : True := trivial
      repeat' first | (with_reducible first | refine q01 ?_ | refine q02 ?_ | refine q03 ?_ | refine q04 ?_ | refine q05 ?_ | refine q06 ?_ | refine q07 (by decide) ?_ | refine q08 ?_ | refine q09 ?_ | refine q10 ?_ | refine q11 ?_ | refine q12 ?_ | refine q13 ?_ | refine q14 ?_ | refine q15 ?_ | refine q16 ?_ | refine q17 ?_ | refine And.intro (by omega) ?_) | (with_reducible refine At.fn_ret (by simp -dsimp [hli, hs]; exact rfl) ?_) | (with_reducible refine At.fn_end (by simp -dsimp [hli, hs]; exact rfl) ?_) | (refine CallE.pure (c1) ?_; try simp -dsimp [hli, hs]) | (refine QCall_pure (c1) ?_; try simp -dsimp [hli, hs]) | (refine DT_regionM (id := 10) (nt := 124) 46 [0, 1, 2, 3, 4, 8, 9, 10, 11, 12, 13, 14, 15, 16, 17, 18, 19, 20, 21, 22, 29] mixed rfl (by kernel_rfl) ?_; simp -dsimp [hli, hs]) | (with_reducible refine DT_regionE [0, 1, 2, 3, 4, 8, 9, 10, 11, 12, 13, 14, 15, 16, 17, 18, 19, 20, 21, 22, 29] ?_; simp -dsimp [hli, hs]) | (refine DT_cond rfl (fun h => ?_) (fun h => ?_) <;> (try simp only [nrm] at h) <;> (try exact Bool.noConfusion h)) | (with_reducible refine GStop_split ?_ ?_ <;> intro h <;> have h0 := h <;> (try simp only [nrm] at h) <;> (try exact Bool.noConfusion h) <;> have h2 := h <;> (try simp at h2) <;> (replace hs := And.intro h0 (And.intro h (And.intro h2 hs))) <;> simp -dsimp [h0, h, h2, hli, hs]) | (with_reducible refine imp_At (fun h => ?_); (try simp only [List.map_eq_nil_iff] at h); (try subst h); try simp -dsimp [hli, hs]) | with_reducible refine And.intro ?_ ?_
      all_goals try simp -dsimp [hli, hs]
      all_goals try clear hs
    · have hli : ¬ (20 : Int) < s.length := by omega
      have hsl : s.length < 1000 := by omega
      have c2 := twin3_c (G := G) n hsn
      have c3 := nForce_c n s m hG hN hS hs hsl
      have c4 := rForce_c (G := G) n s m hs hsl
      have c5 := nLetters_c n s m hG hN hS hs hsl
      rw [letters_eq] at c5
      have c6 := rLetters_c (G := G) n s m hs hsl
      have c7 := nBy_c n s d m hG hN hS hs hsl
      rw [by_eq] at c7
      have c8 := rBy_c (G := G) n s d m hs hsl
      have c9 := nCheck_c n hG hN hS hs
      have c10 := check3_c (G := G) n hs
      have c11 := same3_c (G := G) n hsn
      have hn16 := hs.2.1
      have hr80 := hs.1.1
      have hnl := numsTo_length n.reg n.reg.length
      have hX : (if askedE n s m = 0 then inT n.notes (frcL s [] m n.notes) n.notes.length else []).length < 1000000 := by
        split
        · have := inT_len n.notes (frcL s [] m n.notes) n.notes.length; omega
        · simp
      have hY : (if askedE n s m = 0 then lettersK n s m else []).length < 1000000 := by
        split
        · rw [lettersK, List.length_map, nums]; omega
        · simp
      have c12 := fun (l : List Int) (h : l.length < 1000000) => sameInts_c (G := G) l l h
      have c13 := c12 _ hX
      have c14 := c12 _ hY
      have c15 := c12 s (by omega)
      clear c12
      simp only [decide_true] at c13 c14 c15
      generalize (if askedE n s m = 0 then inT n.notes (frcL s [] m n.notes) n.notes.length else []) = X at *
      generalize (if askedE n s m = 0 then lettersK n s m else []) = Y at *
      generalize (if drawnE n s m d = 0 then byKn n s m d else 0) = Z at *
      have hs : True := trivial
      repeat' first | (with_reducible first | refine q01 ?_ | refine q02 ?_ | refine q03 ?_ | refine q04 ?_ | refine q05 ?_ | refine q06 ?_ | refine q07 (by decide) ?_ | refine q08 ?_ | refine q09 ?_ | refine q10 ?_ | refine q11 ?_ | refine q12 ?_ | refine q13 ?_ | refine q14 ?_ | refine q15 ?_ | refine q16 ?_ | refine q17 ?_ | refine And.intro (by omega) ?_) | (with_reducible refine At.fn_ret (by simp -dsimp [hli, hs]; exact rfl) ?_) | (with_reducible refine At.fn_end (by simp -dsimp [hli, hs]; exact rfl) ?_) | (refine CallE.pure (c1) ?_; try simp -dsimp [hli, hs]) | (refine QCall_pure (c1) ?_; try simp -dsimp [hli, hs]) | (refine CallE.pure (c2) ?_; try simp -dsimp [hli, hs]) | (refine CallE.pure (c3) ?_; try simp -dsimp [hli, hs]) | (refine CallE.pure (c4) ?_; try simp -dsimp [hli, hs]) | (refine CallE.pure (c5) ?_; try simp -dsimp [hli, hs]) | (refine CallE.pure (c6) ?_; try simp -dsimp [hli, hs]) | (refine CallE.pure (c7) ?_; try simp -dsimp [hli, hs]) | (refine CallE.pure (c8) ?_; try simp -dsimp [hli, hs]) | (refine CallE.pure (c9) ?_; try simp -dsimp [hli, hs]) | (refine QCall_pure (c9) ?_; try simp -dsimp [hli, hs]) | (refine CallE.pure (c10) ?_; try simp -dsimp [hli, hs]) | (refine QCall_pure (c10) ?_; try simp -dsimp [hli, hs]) | (refine CallE.pure (c11) ?_; try simp -dsimp [hli, hs]) | (refine QCall_pure (c11) ?_; try simp -dsimp [hli, hs]) | (refine CallE.pure (c13) ?_; try simp -dsimp [hli, hs]) | (refine QCall_pure (c13) ?_; try simp -dsimp [hli, hs]) | (refine CallE.pure (c14) ?_; try simp -dsimp [hli, hs]) | (refine QCall_pure (c14) ?_; try simp -dsimp [hli, hs]) | (refine CallE.pure (c15) ?_; try simp -dsimp [hli, hs]) | (refine QCall_pure (c15) ?_; try simp -dsimp [hli, hs]) | (refine DT_freeze ?_; try simp -dsimp [hli, hs]) | (refine DT_regionM (id := 10) (nt := 124) 46 [0, 1, 2, 3, 4, 8, 9, 10, 11, 12, 13, 14, 15, 16, 17, 18, 19, 20, 21, 22, 29] mixed rfl (by kernel_rfl) ?_; simp -dsimp [hli, hs]) | (with_reducible refine DT_regionE [0, 1, 2, 3, 4, 8, 9, 10, 11, 12, 13, 14, 15, 16, 17, 18, 19, 20, 21, 22, 29] ?_; simp -dsimp [hli, hs]) | (refine DT_cond rfl (fun h => ?_) (fun h => ?_) <;> (try simp only [nrm] at h) <;> (try exact Bool.noConfusion h)) | (with_reducible refine GStop_split ?_ ?_ <;> intro h <;> have h0 := h <;> (try simp only [nrm] at h) <;> (try exact Bool.noConfusion h) <;> have h2 := h <;> (try simp at h2) <;> (replace hs := And.intro h0 (And.intro h (And.intro h2 hs))) <;> simp -dsimp [h0, h, h2, hli, hs]) | (with_reducible refine imp_At (fun h => ?_); (try simp only [List.map_eq_nil_iff] at h); (try subst h); try simp -dsimp [hli, hs]) | with_reducible refine And.intro ?_ ?_
      all_goals try simp -dsimp [hli, hs]
      all_goals try clear hs
end Go.Proofs
namespace Go.Proofs
open Go Go.Ab
theorem len10 {α : Type} {l : List α} (h : l.length = 10) : ∃ a b c d e f g i j k, l = [a, b, c, d, e, f, g, i, j, k] := by
  match l, h with
  | [a, b, c, d, e, f, g, i, j, k], _ => exact ⟨a, b, c, d, e, f, g, i, j, k, rfl⟩
def noteIn (x : Note) : Prop := 0 ≤ x.ways ∧ x.ways ≤ 255 ∧ 0 ≤ x.signed ∧ x.signed ≤ 255
def noteP : Nat → List IC → Prop
  | 2 => fun l => ∃ n : Int, (0 ≤ n ∧ n ≤ 255) ∧ l = [.raw (.int .u8 n)]
  | 8 => fun l => ∃ b : Bool, l = [rB b]
  | 9 => fun l => ∃ n : Int, (0 ≤ n ∧ n ≤ 255) ∧ l = [.raw (.int .u8 n)]
  | _ => fun l => ∃ n : Int, l = [rI n]
theorem rdNote : Rd 110 encNote noteIn := (Opens.struct Tryd.underlying110 (by kernel_rfl) noteP (fun i f hf => by
    rcases i with _ | _ | _ | _ | _ | _ | _ | _ | _ | _ | i <;> simp at hf <;> subst hf
    · exact oInt
    · exact oInt
    · exact oU8
    · exact oInt
    · exact oInt
    · exact oInt
    · exact oInt
    · exact oInt
    · exact oBool
    · exact oU8)).mono (by
  rintro l ⟨ls, h1, h2, rfl⟩
  obtain ⟨a, b, c, d, e, f, g, i, j, k, rfl⟩ := len10 h1
  obtain ⟨x0, rfl⟩ := h2 0 a rfl
  obtain ⟨x1, rfl⟩ := h2 1 b rfl
  obtain ⟨x2, k2, rfl⟩ := h2 2 c rfl
  obtain ⟨x3, rfl⟩ := h2 3 d rfl
  obtain ⟨x4, rfl⟩ := h2 4 e rfl
  obtain ⟨x5, rfl⟩ := h2 5 f rfl
  obtain ⟨x6, rfl⟩ := h2 6 g rfl
  obtain ⟨x7, rfl⟩ := h2 7 i rfl
  obtain ⟨x8, rfl⟩ := h2 8 j rfl
  obtain ⟨x9, k9, rfl⟩ := h2 9 k rfl
  exact ⟨⟨x0, x1, x2, x3, x4, x5, x6, x7, x8, x9⟩, ⟨k9.1, k9.2, k2.1, k2.2⟩, rfl⟩)
theorem oNoteL : Opens Tryd.prog 46 (fun l => ∃ xs : List Note, (∀ x ∈ xs, noteIn x) ∧ l = [.sl (xs.map encNote)]) :=
  Opens.sliceOf Tryd.underlying46 (sz := 10) (by kernel_rfl) (by decide) (fun _ => rfl) rdNote
def notesP : Nat → List IC → Prop
  | 0 => fun l => ∃ xs : List Issue, (∀ x ∈ xs, kindIn x) ∧ l = [.sl (xs.map encIssue)]
  | _ => fun l => ∃ xs : List Note, (∀ x ∈ xs, noteIn x) ∧ l = [.sl (xs.map encNote)]
theorem rdNotes : Rd 48 encNotes NKind := (Opens.struct Tryd.underlying48 (by kernel_rfl) notesP (fun i f hf => by
    rcases i with _ | _ | i <;> simp at hf <;> subst hf
    · exact oReg
    · exact oNoteL)).mono (by
  rintro l ⟨ls, h1, h2, rfl⟩
  obtain ⟨a, b, rfl⟩ := len2 h1
  obtain ⟨x, hx, rfl⟩ := h2 0 a rfl
  obtain ⟨y, hy, rfl⟩ := h2 1 b rfl
  exact ⟨⟨x, y⟩, ⟨hx, hy⟩, rfl⟩)
theorem gNote : Tryd.prog.globalNamed "blueline/note.checks" = some 1 := by kernel_rfl
theorem tNote : (Tryd.prog.globals[1]?).map (·.type) = some 179 := by kernel_rfl
end Go.Proofs
namespace Go.Ab
open Go Go.Sort
theorem RelM.grown {G : Nat → Option (List IC)} {M : MS} {w' : World} {os : Array Obj} (h : RelM G M) (hw : w'.heap = M.w.heap ++ os) (hio : SameIo M.w w') : RelM G { M with w := w' } ∧ Ext M.objs.length M { M with w := w' } := by
  have hold : ∀ {b : Nat}, b < M.w.heap.size → w'.heap[b]? = M.w.heap[b]? := fun {b} hb => by rw [hw]; simp [Array.getElem?_append, hb]
  have hsz : M.w.heap.size ≤ w'.heap.size := by rw [hw]; simp
  have he : Ext M.objs.length M { M with w := w' } :=
    ⟨Nat.le_refl _, fun b hb => ⟨⟨Nat.lt_of_lt_of_le hb.1 hsz, hb.2⟩, hold hb.1⟩, Fsame M, hsz, fun p _ c' hc => ⟨⟨c', hc⟩, rfl⟩,
      fun p _ sz es g nl hv => ⟨sz, es, g, nl, hv, Nat.le_refl _, fun _ => ⟨rfl, rfl, fun hn => ⟨rfl, by simp only [bsize]; rw [hold (h.lt p _ hv (by simp [DObj.blk, hn]))]⟩⟩⟩, fun p _ _ es hm => ⟨⟨es, hm⟩, rfl⟩,
      fun p _ r hm => ⟨⟨r, hm⟩, rfl⟩, fun p _ l c hm => ⟨⟨l, c, hm⟩, rfl⟩, fun p _ r hm => ⟨⟨r, hm⟩, rfl⟩, hio⟩
  exact ⟨⟨fun o d ho => (h.objs o d ho).ext he (fun _ => rfl) (fun hb => hold (h.lt o d ho hb)), fun o d ho hb => Nat.lt_of_lt_of_le (h.lt o d ho hb) hsz, h.inj, fun g l hg => (h.glob g l hg).mono he.ok, fun b hF => Nat.lt_of_lt_of_le (h.fl b hF) hsz, h.own⟩, he⟩
theorem putCells_get {l : List Int} {c : Array Value} {i : Nat} (hi : i < l.length) (hc : i < c.size) : (putCells (Value.int .i64) 0 l.toArray c)[i]? = some (.int .i64 l[i]) := by
  simp only [putCells, Array.getElem?_mapIdx, Array.getElem?_eq_getElem hc, Option.map_some]
  rw [if_pos ⟨Nat.zero_le _, by simpa using hi⟩]
  simp [hi]
theorem DCall.sort {P : Program} {G : Nat → Option (List IC)} {f : FuncId}
    (hS : ∀ (blk cap : Nat) (zs : List Int) (w : World), Holds (Value.int .i64) w blk 0 zs.toArray → blk < w.heap.size → zs.length < 4611686018427387904 →
      Calls P f #[.slice (some ⟨blk, 0, none⟩) zs.length cap] w fun e w' => e = .returned (.tuple #[]) ∧ ∃ n os, w' = grow (putRow (Value.int .i64) (Sort.ahead w n) blk 0 (zs.mergeSort fun x y => decide (x ≤ y)).toArray) os)
    (h0 : ∀ (a : Option Addr) (cap : Nat) (w : World), Calls P f #[.slice a 0 cap] w fun e w' => e = .returned (.tuple #[]) ∧ w' = w)
    (l : List Int) (g sz : Nat) (nl : Bool) (hz : sz = 1 ∨ nl = true ∧ l = []) (hl : l.length < 1000000) :
    DCall P G f [.one (.vec 0 g 0 l.length)] [.vec sz (ims (l.map encI)) g nl] (fun d o => d = .tup [] ∧ o = [.vec sz (ims ((isort l).map encI)) g nl]) := by
  intro M vs hM ho hsz hr
  obtain ⟨v, rfl⟩ : ∃ v, vs = #[v] := by
    obtain ⟨vl⟩ := vs
    match vl, hsz with
    | [v], _ => exact ⟨v, rfl⟩
  have hv := hr 0 _ v rfl rfl
  have h1 : M.objs[0]? = some (.vec sz (ims (l.map encI)) g nl) := by rw [ho]; rfl
  have hO := hM.objs 0 _ h1
  cases hv with
  | one _ _ hv =>
  cases hv with
  | vec _ _ _ _ _ _ _ hv =>
  obtain ⟨_, hv⟩ := hv _ _ _ _ h1
  obtain ⟨hvt, hvf⟩ := hv rfl
  have hnil : ∀ (a : Option Addr) (cap : Nat), l = [] → Calls P f #[.slice a 0 cap] M.w fun e w' => ∃ v d M', e = .returned v ∧ M'.w = w' ∧ RelM G M' ∧ RepV M' d v ∧ Ext 1 M M' ∧ d = .tup [] ∧ M'.objs = [.vec sz (ims ((isort l).map encI)) g nl] := fun a cap hle => by
    refine (h0 a cap M.w).mono fun e w' ⟨he, hw⟩ => ?_
    subst hw
    refine ⟨_, .tup [], M, he, rfl, hM, .tup _ _ rfl (fun j d v h => by simp at h), (Ext.refl M).weaken (by simp [ho]), rfl, ?_⟩
    rw [ho, hle, show isort [] = [] from List.mergeSort_nil]
  cases nl with
  | true =>
    obtain ⟨_, e, hv⟩ := hvt rfl
    have e : l = [] := List.eq_nil_of_length_eq_zero e
    have := hnil none 0 e
    rw [hv]; simpa using this
  | false =>
    obtain rfl : sz = 1 := hz.resolve_right fun h => Bool.noConfusion h.1
    obtain ⟨x, cap, hv, hc, hx, hb⟩ := hvf rfl
    by_cases e : l = []
    · have := hnil (some ⟨M.β 0, x, none⟩) cap e
      rw [hv]; subst e; simpa using this
    have hlp : 0 < l.length := List.length_pos_iff.2 e
    have hx0 : x = 0 := by rcases hx with hx | hx <;> omega
    subst hx0
    obtain ⟨_, hO⟩ := hO
    obtain ⟨_, c, T, hh, hcs, hes, hrep⟩ := hO rfl
    have hcl : l.length ≤ c.size := by simpa [ims_length] using hcs
    have hcell : ∀ j (hj : j < l.length), c[j]? = some (.int .i64 l[j]) := fun j hj => by
      have hjc : j < c.size := by omega
      have := hrep j [DC.im (.raw (.int .i64 l[j]))] 0 (.im (.raw (.int .i64 l[j]))) c[j] (by simp [ims, hj]) rfl (by simp [hjc])
      have hcj : c[j]? = some c[j] := by simp [hjc]
      generalize c[j] = y at this hcj
      cases this with
      | im _ _ hi =>
        cases hi
        exact hcj
    have hH : Holds (Value.int .i64) M.w (M.β 0) 0 l.toArray := fun j hj => by
      have hj : j < l.length := by simpa using hj
      refine ⟨?_, ?_⟩
      · simp only [World.cell?, hh]
        simp [hcell j hj, hj]
      · simp [World.frozen?, hh]
    have hlt : M.β 0 < M.w.heap.size := hM.lt 0 _ h1 rfl
    rw [hv]
    refine (hS (M.β 0) cap l M.w hH hlt (by omega)).mono fun e' w' ⟨he, n, os, hw⟩ => ?_
    have hmod : M.w.heap.modify (M.β 0) (onCells (putCells (Value.int .i64) 0 (isort l).toArray)) = M.w.heap.setIfInBounds (M.β 0) (.cells (putCells (Value.int .i64) 0 (isort l).toArray c) T (0, 0)) := by
      apply Array.ext_getElem?
      intro k
      simp only [Array.getElem?_modify, Array.getElem?_setIfInBounds]
      by_cases hk : M.β 0 = k
      · subst hk; rw [if_pos rfl, if_pos rfl, if_pos hlt, hh]; rfl
      · simp [hk]
    have ha : (DObj.vec 1 (ims (l.map encI)) g false).alike (.vec 1 (ims ((isort l).map encI)) g false) := ⟨rfl, .inl ⟨rfl, rfl⟩⟩
    have hs : osize (.cells (putCells (Value.int .i64) 0 (isort l).toArray c) T (0, 0)) = osize (.cells c T (0, 0)) := by simp [osize, putCells]
    have hE := Ext.turn (d' := .vec 1 (ims ((isort l).map encI)) g false) h1 rfl ha hh hs
    have hR := RelM.turn (d' := .vec 1 (ims ((isort l).map encI)) g false) hM h1 rfl ha hh hs (by
      refine ⟨fun h => Bool.noConfusion h, fun _ => ⟨by omega, putCells (Value.int .i64) 0 (isort l).toArray c, T, by simp [MS.turn, Array.getElem?_setIfInBounds_self_of_lt hlt], by simpa [ims_length, isort_len, putCells] using hcl, fun i x hx => ?_, fun i x j d v hx hj hv => ?_⟩⟩
      · simp only [ims, List.getElem?_map, Option.map_map] at hx
        obtain ⟨y, _, rfl⟩ := Option.map_eq_some_iff.1 hx
        rfl
      · simp only [ims, List.getElem?_map, Option.map_map] at hx
        obtain ⟨y, hy, rfl⟩ := Option.map_eq_some_iff.1 hx
        have hil : i < (isort l).length := lt_of_getElem? hy
        match j, hj with
        | 0, hj =>
          cases hj
          have hic : i < c.size := by rw [isort_len] at hil; omega
          rw [Nat.mul_one, Nat.add_zero, putCells_get hil hic] at hv
          have e : (isort l)[i]'hil = y := (List.getElem?_eq_some_iff.1 hy).2
          cases hv
          rw [e]
          exact .im _ _ (.raw _ rfl))
    have hg := RelM.grown (w' := w') (os := os) hR (by rw [hw]; simp only [grow, putRow, mapBlock, Sort.ahead, MS.turn]; rw [show (l.mergeSort fun x y => decide (x ≤ y)) = isort l from rfl, hmod]) (by rw [hw]; exact ⟨rfl, rfl, rfl⟩)
    refine ⟨_, .tup [], _, he, ?_, hg.1, .tup _ _ rfl (fun j d v h => by simp at h), ?_, rfl, ?_⟩
    · rfl
    · have hl1 : M.objs.length = 1 := by rw [ho]; rfl
      have h2 := hg.2
      rw [show (M.turn 0 (.cells (putCells (Value.int .i64) 0 (isort l).toArray c) T (0, 0)) (.vec 1 (ims ((isort l).map encI)) g false)).objs.length = 1 by simp [MS.turn, ho]] at h2
      rw [hl1] at hE
      exact hE.trans h2
    · simp [MS.turn, ho]
end Go.Ab
namespace Go.Proofs
open Go.Shelf
def Tryd.laysSort_ren : Go.Shelf.Ren := ⟨fun | 189 => 69 | 125 => 109 | 257 => 108 | 128 => 139 | 129 => 140 | 294 => 130 | 295 => 131 | 296 => 132 | 297 => 133 | 298 => 134 | 299 => 135 | 216 => 136 | 300 => 137 | 301 => 138 | 328 => 152 | 329 => 153 | 330 => 154 | 331 => 155 | 332 => 156 | 215 => 157 | 343 => 166 | n => n, fun | 28 => 25 | 3 => 3 | 46 => 187 | 0 => 0 | 51 => 217 | 53 => 219 | 4 => 4 | 183 => 209 | 182 => 208 | 131 => 214 | 5 => 5 | 9 => 9 | 218 => 233 | 222 => 237 | 228 => 244 | 229 => 57 | n => n, fun | n => n⟩
theorem Tryd.laysSort : Go.Proofs.Lays.n189 Tryd.prog Tryd.laysSort_ren := {
  mixed := by kernel_rfl
  f125 := Tryd.func109.trans (congrArg some (by kernel_rfl))
  f128 := Tryd.func139.trans (congrArg some (by kernel_rfl))
  f129 := Tryd.func140.trans (congrArg some (by kernel_rfl))
  f189 := Tryd.func69.trans (congrArg some (by kernel_rfl))
  f215 := Tryd.func157.trans (congrArg some (by kernel_rfl))
  f216 := Tryd.func136.trans (congrArg some (by kernel_rfl))
  f257 := Tryd.func108.trans (congrArg some (by kernel_rfl))
  f294 := Tryd.func130.trans (congrArg some (by kernel_rfl))
  f295 := Tryd.func131.trans (congrArg some (by kernel_rfl))
  f296 := Tryd.func132.trans (congrArg some (by kernel_rfl))
  f297 := Tryd.func133.trans (congrArg some (by kernel_rfl))
  f298 := Tryd.func134.trans (congrArg some (by kernel_rfl))
  f299 := Tryd.func135.trans (congrArg some (by kernel_rfl))
  f300 := Tryd.func137.trans (congrArg some (by kernel_rfl))
  f301 := Tryd.func138.trans (congrArg some (by kernel_rfl))
  f328 := Tryd.func152.trans (congrArg some (by kernel_rfl))
  f329 := Tryd.func153.trans (congrArg some (by kernel_rfl))
  f330 := Tryd.func154.trans (congrArg some (by kernel_rfl))
  f331 := Tryd.func155.trans (congrArg some (by kernel_rfl))
  f332 := Tryd.func156.trans (congrArg some (by kernel_rfl))
  f343 := Tryd.func166.trans (congrArg some (by kernel_rfl))
  t0 := Tryd.underlying0
  a0 := Tryd.isAgg0
  z0 := Tryd.sizeOf0
  v0 := Tryd.zeroValue0
  t3 := Tryd.underlying3
  a3 := Tryd.isAgg3
  z3 := Tryd.sizeOf3
  v3 := Tryd.zeroValue3
  t4 := Tryd.underlying4
  a4 := Tryd.isAgg4
  z4 := Tryd.sizeOf4
  v4 := Tryd.zeroValue4
  t5 := Tryd.underlying5
  a5 := Tryd.isAgg5
  z5 := Tryd.sizeOf5
  v5 := Tryd.zeroValue5
  t9 := Tryd.underlying9
  a9 := Tryd.isAgg9
  z9 := Tryd.sizeOf9
  v9 := Tryd.zeroValue9
  t28 := Tryd.underlying25
  a28 := Tryd.isAgg25
  z28 := Tryd.sizeOf25
  v28 := Tryd.zeroValue25
  t46 := Tryd.underlying187
  a46 := Tryd.isAgg187
  z46 := Tryd.sizeOf187
  v46 := Tryd.zeroValue187
  t51 := Tryd.underlying217
  a51 := Tryd.isAgg217
  z51 := Tryd.sizeOf217
  v51 := Tryd.zeroValue217
  t53 := Tryd.underlying219
  a53 := Tryd.isAgg219
  z53 := Tryd.sizeOf219
  v53 := Tryd.zeroValue219
  t131 := Tryd.underlying214
  a131 := Tryd.isAgg214
  z131 := Tryd.sizeOf214
  v131 := Tryd.zeroValue214
  t182 := Tryd.underlying208
  a182 := Tryd.isAgg208
  z182 := Tryd.sizeOf208
  v182 := Tryd.zeroValue208
  t183 := Tryd.underlying209
  a183 := Tryd.isAgg209
  z183 := Tryd.sizeOf209
  v183 := Tryd.zeroValue209
  t218 := Tryd.underlying233
  a218 := Tryd.isAgg233
  z218 := Tryd.sizeOf233
  v218 := Tryd.zeroValue233
  t222 := Tryd.underlying237
  a222 := Tryd.isAgg237
  z222 := Tryd.sizeOf237
  v222 := Tryd.zeroValue237
  t228 := Tryd.underlying244
  a228 := Tryd.isAgg244
  z228 := Tryd.sizeOf244
  v228 := Tryd.zeroValue244
  t229 := Tryd.underlying57
  a229 := Tryd.isAgg57
  z229 := Tryd.sizeOf57
  v229 := Tryd.zeroValue57 }
end Go.Proofs
namespace Go.Proofs
open Go Go.Ab
theorem sortOk (G : Nat → Option (List IC)) : SortOk G := fun l g sz nl hz hl =>
  DCall.sort (P := Tryd.prog) (G := G) (f := 69) (fun blk cap zs w hH hb hs => Any.slices_Sort_int Tryd.laysSort blk 0 cap zs w hH hb hs) (fun a cap w => Any.slices_Sort_int_none Tryd.laysSort a cap w) l g sz nl hz hl
end Go.Proofs
