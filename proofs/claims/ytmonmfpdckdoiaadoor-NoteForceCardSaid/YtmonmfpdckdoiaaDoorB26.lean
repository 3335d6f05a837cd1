/- Part 26 of the proof whose last text closes the card: laws and walks that hold without conditions beyond those that each theorem names. -/
import Derived.Test.YtmonmfpdckdoiaaDoorB13
import Derived.Test.YtmonmfpdckdoiaaDoorB18
import Derived.Test.YtmonmfpdckdoiaaDoorB25
set_option linter.all false
set_option linter.deprecated false
namespace Go.Ab
open Go
def frcB (signed without : List Int) (m : Int) (x : Note) : Bool := (decide (x.signed = 2) || decide (x.number ∈ signed)) && !decide (x.number ∈ without) && (decide (x.frm ≤ m) && decide (m ≤ x.to))
def frcO (n : Int) : List Note → List Bool → Bool
  | y :: l, b :: o => !(b && decide (y.cancels = n)) && frcO n l o
  | _, _ => true
def frcL (signed without : List Int) (m : Int) : List Note → List Bool
  | [] => []
  | x :: r => (frcB signed without m x && frcO x.number r (frcL signed without m r)) :: frcL signed without m r
theorem frcL_len (signed without : List Int) (m : Int) : ∀ l, (frcL signed without m l).length = l.length
  | [] => rfl
  | x :: r => by simp [frcL, frcL_len signed without m r]
@[simp] theorem ims_setB (L : List Bool) (k : Nat) (v : Bool) : (ims (L.map encB)).set k [DC.im (.raw (.bool v))] = ims ((L.set k v).map encB) := by
  simp only [ims, List.map_set, encB, rB, List.map_cons, List.map_nil]
@[simp] theorem ims_getB (L : List Bool) (k : Nat) (h : k < (ims (L.map encB)).length) : (ims (L.map encB))[k] = [DC.im (.raw (.bool (L[k]'(by simpa [ims_length] using h))))] := by
  simp [ims]
theorem frcL_drop (signed without : List Int) (m : Int) : ∀ (l : List Note) (k : Nat), (frcL signed without m l).drop k = frcL signed without m (l.drop k)
  | _, 0 => rfl
  | [], _ + 1 => rfl
  | x :: r, k + 1 => by simp [frcL, frcL_drop signed without m r k]
end Go.Ab
namespace Go.Proofs
open Go Go.Ab
set_option linter.unusedSimpArgs false
variable {G : Nat → Option (List IC)}
set_option maxHeartbeats 1000000 in
theorem force3_c (n : Notes) (signed without : List Int) (m : Int) (hl : n.notes.length < 1000) (hsi : signed.length < 1000) (hwo : without.length < 1000) (objs : List DObj) : DCall Tryd.prog G 54 [notesv n, isv signed, isv without, iv m] objs (fun rr objs' => rr = bsv (frcL signed without m n.notes) ∧ objs' = objs) := by
  refine DCall.frame ?_ (by simp) (by simp) objs
  refine DCall_intro Tryd.func54 rfl Tryd.ntmps54 (by simp) rfl ?_
  try simp only [notesv, isv, isv, iv]
  have hw0 : IntKind.i64.wrap ((n.notes.length : Int) - 1) = (n.notes.length : Int) - 1 := i64w (by omega) (by omega)
  have hs : True := trivial
  repeat' first | (with_reducible first | refine q01 ?_ | refine q02 ?_ | refine q03 ?_ | refine q04 ?_ | refine q05 ?_ | refine q06 ?_ | refine q07 (by decide) ?_ | refine q08 ?_ | refine q09 ?_ | refine q10 ?_ | refine q11 ?_ | refine q12 ?_ | refine q13 ?_ | refine q14 ?_ | refine q15 ?_ | refine q16 ?_ | refine q17 ?_ | refine And.intro (by omega) ?_) | (with_reducible refine At.fn_ret (by simp -dsimp [hw0, hs]; exact rfl) ?_) | (with_reducible refine At.fn_end (by simp -dsimp [hw0, hs]; exact rfl) ?_) | (refine DT_regionM (id := 10) (nt := 88) 20 [0, 1, 2, 3, 4, 8, 9, 10, 11, 12, 13, 23, 61] mixed rfl (by kernel_rfl) ?_; simp -dsimp [hw0, hs]) | (with_reducible refine DT_regionE [0, 1, 2, 3, 4, 8, 9, 10, 11, 12, 13, 23, 61] ?_; simp -dsimp [hw0, hs]) | (refine DT_cond rfl (fun h => ?_) (fun h => ?_) <;> (try simp only [nrm] at h) <;> (try exact Bool.noConfusion h)) | (with_reducible refine GStop_split ?_ ?_ <;> intro h <;> have h0 := h <;> (try simp only [nrm] at h) <;> (try exact Bool.noConfusion h) <;> have h2 := h <;> (try simp at h2) <;> (replace hs := And.intro h0 (And.intro h (And.intro h2 hs))) <;> simp -dsimp [h0, h, h2, hw0, hs]) | (with_reducible refine imp_At (fun h => ?_); (try simp only [List.map_eq_nil_iff] at h); (try subst h); try simp -dsimp [hw0, hs]) | with_reducible refine And.intro ?_ ?_
  all_goals try simp -dsimp [hw0, hs]
  all_goals try clear hs
  refine DT_loop (ι := { i : Nat // i ≤ n.notes.length }) (fun p => ⟨88, [(1, isv signed), (2, isv without), (3, iv m), (4, .one (.ptr 0 0)), (8, .one (.vec 1 0 0 0)), (9, .one (.vec 2 0 0 n.notes.length)), (10, iv ((p.1 : Int) - 1))], [.row ((encNotes n).map .im), .vec 1 [] 0 true, .vec 1 (ims ((List.replicate p.1 false ++ frcL signed without m (n.notes.drop p.1)).map encB)) 0 false]⟩) (fun p => p.1) ⟨n.notes.length, Nat.le_refl _⟩ (Weak.of_keep [1,2,3,4,8,9,10] (by simp [frcL])) ?_
  rintro ⟨i, hi⟩
  simp only [iv, isv]
  cases i with
  | zero =>
    have hlen := frcL_len signed without m n.notes
    have htk : (ims ((frcL signed without m n.notes).map encB)).take n.notes.length = ims ((frcL signed without m n.notes).map encB) := List.take_of_length_le (by simp [ims_length, hlen])
    have hs : True := trivial
    repeat' first | (with_reducible first | refine q01 ?_ | refine q02 ?_ | refine q03 ?_ | refine q04 ?_ | refine q05 ?_ | refine q06 ?_ | refine q07 (by decide) ?_ | refine q08 ?_ | refine q09 ?_ | refine q10 ?_ | refine q11 ?_ | refine q12 ?_ | refine q13 ?_ | refine q14 ?_ | refine q15 ?_ | refine q16 ?_ | refine q17 ?_ | refine And.intro (by omega) ?_) | (with_reducible refine At.fn_ret (by simp -dsimp [hlen, htk, hs]; exact rfl) ?_) | (with_reducible refine At.fn_end (by simp -dsimp [hlen, htk, hs]; exact rfl) ?_) | (refine DT_regionM (id := 10) (nt := 88) 20 [0, 1, 2, 3, 4, 8, 9, 10, 11, 12, 13, 23, 61] mixed rfl (by kernel_rfl) ?_; simp -dsimp [hlen, htk, hs]) | (with_reducible refine DT_regionE [0, 1, 2, 3, 4, 8, 9, 10, 11, 12, 13, 23, 61] ?_; simp -dsimp [hlen, htk, hs]) | (refine DT_cond rfl (fun h => ?_) (fun h => ?_) <;> (try simp only [nrm] at h) <;> (try exact Bool.noConfusion h)) | (with_reducible refine GStop_split ?_ ?_ <;> intro h <;> have h0 := h <;> (try simp only [nrm] at h) <;> (try exact Bool.noConfusion h) <;> have h2 := h <;> (try simp at h2) <;> (replace hs := And.intro h0 (And.intro h (And.intro h2 hs))) <;> simp -dsimp [h0, h, h2, hlen, htk, hs]) | (with_reducible refine imp_At (fun h => ?_); (try simp only [List.map_eq_nil_iff] at h); (try subst h); try simp -dsimp [hlen, htk, hs]) | with_reducible refine And.intro ?_ ?_
    all_goals try simp -dsimp [hlen, htk, hs]
    all_goals try clear hs
  | succ j =>
    have hj : j < n.notes.length := hi
    have hwj : IntKind.i64.wrap ((j : Int) - 1) = (j : Int) - 1 := i64w (by omega) (by omega)
    generalize hx : n.notes[j] = x
    have c1 := has3_c (G := G) signed x.number (by omega)
    have c2 := has3_c (G := G) without x.number (by omega)
    have c3 := within3_c (G := G) m x.frm x.to
    have hwk : IntKind.i64.wrap ((j : Int) + 1) = ((j + 1 : Nat) : Int) := i64w (by omega) (by omega)
    obtain ⟨O, hO⟩ : ∃ O, O = List.replicate (j + 1) false ++ frcL signed without m (n.notes.drop (j + 1)) := ⟨_, rfl⟩
    have hOl : O.length = n.notes.length := by rw [hO]; simp [frcL_len]; omega
    have hOi : ims (List.replicate (j + 1) [IC.raw (.bool false)]) ++ ims ((frcL signed without m (n.notes.drop (j + 1))).map encB) = ims (O.map encB) := by rw [hO]; simp
    have hOk : ∀ (k : Nat) (h1 : j + 1 ≤ k) (h2 : k < n.notes.length), frcL signed without m (n.notes.drop k) = O[k] :: frcL signed without m (n.notes.drop (k + 1)) := by
      have hOd : ∀ q, j + 1 ≤ q → O.drop q = frcL signed without m (n.notes.drop q) := fun q hq => by
        obtain ⟨r, rfl⟩ := Nat.exists_eq_add_of_le hq
        rw [hO, ← List.drop_drop, List.drop_left' (by simp), frcL_drop, List.drop_drop]
      intro k h1 h2
      rw [← hOd k h1, ← hOd (k + 1) (by omega)]
      exact List.drop_eq_getElem_cons (by omega)
    have hs : True := trivial
    repeat' first | (with_reducible first | refine q01 ?_ | refine q02 ?_ | refine q03 ?_ | refine q04 ?_ | refine q05 ?_ | refine q06 ?_ | refine q07 (by decide) ?_ | refine q08 ?_ | refine q09 ?_ | refine q10 ?_ | refine q11 ?_ | refine q12 ?_ | refine q13 ?_ | refine q14 ?_ | refine q15 ?_ | refine q16 ?_ | refine q17 ?_ | refine And.intro (by omega) ?_) | (with_reducible refine At.fn_ret (by simp -dsimp [hx, hj, hwj, hwk, hs]; exact rfl) ?_) | (with_reducible refine At.fn_end (by simp -dsimp [hx, hj, hwj, hwk, hs]; exact rfl) ?_) | (refine CallE.pure (c1) ?_; try simp -dsimp [hx, hj, hwj, hwk, hs]) | (refine CallE.pure (c2) ?_; try simp -dsimp [hx, hj, hwj, hwk, hs]) | (refine CallE.pure (c3) ?_; try simp -dsimp [hx, hj, hwj, hwk, hs]) | (refine DT_regionM (id := 10) (nt := 88) 20 [0, 1, 2, 3, 4, 8, 9, 10, 11, 12, 13, 23, 61] mixed rfl (by kernel_rfl) ?_; simp -dsimp [hx, hj, hwj, hwk, hs]) | (with_reducible refine DT_regionE [0, 1, 2, 3, 4, 8, 9, 10, 11, 12, 13, 23, 61] ?_; simp -dsimp [hx, hj, hwj, hwk, hs]) | (refine DT_cond rfl (fun h => ?_) (fun h => ?_) <;> (try simp only [nrm] at h) <;> (try exact Bool.noConfusion h)) | (with_reducible refine GStop_split ?_ ?_ <;> intro h <;> have h0 := h <;> (try simp only [nrm] at h) <;> (try exact Bool.noConfusion h) <;> have h2 := h <;> (try simp at h2) <;> (replace hs := And.intro h0 (And.intro h (And.intro h2 hs))) <;> simp -dsimp [h0, h, h2, hx, hj, hwj, hwk, hs]) | (with_reducible refine imp_At (fun h => ?_); (try simp only [List.map_eq_nil_iff] at h); (try subst h); try simp -dsimp [hx, hj, hwj, hwk, hs]) | with_reducible refine And.intro ?_ ?_
    all_goals try simp -dsimp [hx, hj, hwj, hwk, hs]
    all_goals try clear hs
    all_goals simp only [hOi]
    all_goals refine DT_loop (ι := { p : Nat × Bool // j + 1 ≤ p.1 ∧ p.1 ≤ n.notes.length ∧ (frcB signed without m x && frcO x.number (n.notes.drop (j + 1)) (frcL signed without m (n.notes.drop (j + 1)))) = (p.2 && frcO x.number (n.notes.drop p.1) (frcL signed without m (n.notes.drop p.1))) }) (fun p => ⟨88, [(1, isv signed), (2, isv without), (3, iv m), (4, .one (.ptr 0 0)), (8, .one (.vec 1 0 0 0)), (9, .one (.vec 2 0 0 n.notes.length)), (10, iv (j : Int)), (11, .one (.ptr 3 0)), (12, bv p.1.2), (13, iv (p.1.1 : Int))], [.row ((encNotes n).map .im), .vec 1 [] 0 true, .vec 1 (ims (O.map encB)) 0 false, .row ((encNote x).map .im)]⟩) (fun p => n.notes.length - p.1.1) ⟨(j + 1, frcB signed without m x), by simp; omega⟩ (Weak.of_keep [1,2,3,4,8,9,10,11,12,13] (by clear hO hOi hOk hOl hx hwk hwj hw0 c1 c2 c3; simp [frcB, *])) ?_
    all_goals
      rintro ⟨⟨k, v⟩, hk1, hk2, hv⟩
      simp only at hk1 hk2 hv
      simp only [iv, isv, bv]
      by_cases hlk : k < n.notes.length
      · have hwk2 : IntKind.i64.wrap ((k : Int) + 1) = ((k + 1 : Nat) : Int) := i64w (by omega) (by omega)
        have hko : k < O.length := by omega
        rw [hOk k hk1 hlk, List.drop_eq_getElem_cons hlk, frcO] at hv
        clear hOk hOi hO
        generalize hy : n.notes[k] = y at *
        generalize hz : O[k] = z at *
        cases v <;> cases z
        all_goals
          have hs : True := trivial
          repeat' first | (with_reducible first | refine q01 ?_ | refine q02 ?_ | refine q03 ?_ | refine q04 ?_ | refine q05 ?_ | refine q06 ?_ | refine q07 (by decide) ?_ | refine q08 ?_ | refine q09 ?_ | refine q10 ?_ | refine q11 ?_ | refine q12 ?_ | refine q13 ?_ | refine q14 ?_ | refine q15 ?_ | refine q16 ?_ | refine q17 ?_ | refine And.intro (by omega) ?_) | (with_reducible refine At.fn_ret (by simp -dsimp [hy, hz, hlk, hko, hwk2, hOl, hs]; exact rfl) ?_) | (with_reducible refine At.fn_end (by simp -dsimp [hy, hz, hlk, hko, hwk2, hOl, hs]; exact rfl) ?_) | (refine DT_regionM (id := 10) (nt := 88) 20 [0, 1, 2, 3, 4, 8, 9, 10, 11, 12, 13, 23, 61] mixed rfl (by kernel_rfl) ?_; simp -dsimp [hy, hz, hlk, hko, hwk2, hOl, hs]) | (with_reducible refine DT_regionE [0, 1, 2, 3, 4, 8, 9, 10, 11, 12, 13, 23, 61] ?_; simp -dsimp [hy, hz, hlk, hko, hwk2, hOl, hs]) | (refine DT_cond rfl (fun h => ?_) (fun h => ?_) <;> (try simp only [nrm] at h) <;> (try exact Bool.noConfusion h)) | (with_reducible refine GStop_split ?_ ?_ <;> intro h <;> have h0 := h <;> (try simp only [nrm] at h) <;> (try exact Bool.noConfusion h) <;> have h2 := h <;> (try simp at h2) <;> (replace hs := And.intro h0 (And.intro h (And.intro h2 hs))) <;> simp -dsimp [h0, h, h2, hy, hz, hlk, hko, hwk2, hOl, hs]) | (with_reducible refine imp_At (fun h => ?_); (try simp only [List.map_eq_nil_iff] at h); (try subst h); try simp -dsimp [hy, hz, hlk, hko, hwk2, hOl, hs]) | with_reducible refine And.intro ?_ ?_
          all_goals try simp -dsimp [hy, hz, hlk, hko, hwk2, hOl, hs]
          all_goals try clear hs
        all_goals exact At.round ⟨(k + 1, _), by simp only; omega, by simp only; omega, hv.trans (Bool.and_assoc ..).symm⟩ (by simp only; omega) (Weak.of_keep [1,2,3,4,8,9,10,11,12,13] (by simp; try (cases decide (y.cancels = x.number) <;> rfl)))
      · have e : k = n.notes.length := by omega
        have hend : (List.replicate j false ++ frcL signed without m (n.notes.drop j)) = O.set j v := by
          have hnil : frcO x.number (n.notes.drop k) (frcL signed without m (n.notes.drop k)) = true := by
            rw [List.drop_eq_nil_of_le (by omega)]; rfl
          rw [hnil, Bool.and_true] at hv
          rw [List.drop_eq_getElem_cons hj, hx, frcL, hv, hO, List.replicate_succ', List.append_assoc]
          simp
        have hend2 : ims ((O.map encB).set j [IC.raw (.bool v)]) = ims (List.replicate j [IC.raw (.bool false)]) ++ ims ((frcL signed without m (n.notes.drop j)).map encB) := by
          rw [show [IC.raw (.bool v)] = encB v from rfl, ← List.map_set, ← hend, List.map_append, ims_append]
          simp
        have hjO : j < O.length := by omega
        clear hOk hOi hO
        have hs : True := trivial
        repeat' first | (with_reducible first | refine q01 ?_ | refine q02 ?_ | refine q03 ?_ | refine q04 ?_ | refine q05 ?_ | refine q06 ?_ | refine q07 (by decide) ?_ | refine q08 ?_ | refine q09 ?_ | refine q10 ?_ | refine q11 ?_ | refine q12 ?_ | refine q13 ?_ | refine q14 ?_ | refine q15 ?_ | refine q16 ?_ | refine q17 ?_ | refine And.intro (by omega) ?_) | (with_reducible refine At.fn_ret (by simp -dsimp [hlk, hj, hOl, hjO, hs]; exact rfl) ?_) | (with_reducible refine At.fn_end (by simp -dsimp [hlk, hj, hOl, hjO, hs]; exact rfl) ?_) | (refine DT_regionM (id := 10) (nt := 88) 20 [0, 1, 2, 3, 4, 8, 9, 10, 11, 12, 13, 23, 61] mixed rfl (by kernel_rfl) ?_; simp -dsimp [hlk, hj, hOl, hjO, hs]) | (with_reducible refine DT_regionE [0, 1, 2, 3, 4, 8, 9, 10, 11, 12, 13, 23, 61] ?_; simp -dsimp [hlk, hj, hOl, hjO, hs]) | (refine DT_cond rfl (fun h => ?_) (fun h => ?_) <;> (try simp only [nrm] at h) <;> (try exact Bool.noConfusion h)) | (with_reducible refine GStop_split ?_ ?_ <;> intro h <;> have h0 := h <;> (try simp only [nrm] at h) <;> (try exact Bool.noConfusion h) <;> have h2 := h <;> (try simp at h2) <;> (replace hs := And.intro h0 (And.intro h (And.intro h2 hs))) <;> simp -dsimp [h0, h, h2, hlk, hj, hOl, hjO, hs]) | (with_reducible refine imp_At (fun h => ?_); (try simp only [List.map_eq_nil_iff] at h); (try subst h); try simp -dsimp [hlk, hj, hOl, hjO, hs]) | with_reducible refine And.intro ?_ ?_
        all_goals try simp -dsimp [hlk, hj, hOl, hjO, hs]
        all_goals try clear hs
        all_goals exact At.round ⟨j, by omega⟩ (by simp) (Weak.of_drop [1,2,3,4,8,9,10] 3 (by simp) (by simp) (by simp [hend2, hwj]))
end Go.Proofs
namespace Go.Proofs
open Go Go.Ab
/-! ### The open notes in order -/
def numAt (l : List Note) (i : Nat) : Int := ((l[i]?).map (·.number)).getD 0
def opAt (l : List Note) (i : Nat) : Bool := match l[i]? with | some x => decide (x.signed = 1) | none => false
/-- The open ones of the first k, in the order of their Numbers. -/
structure OpenTo (l : List Note) (k : Nat) (S : List Nat) : Prop where
  perm : S.Perm ((List.range k).filter (opAt l))
  srt : S.Pairwise fun a b => numAt l a ≤ numAt l b
theorem OpenTo.nil (l : List Note) : OpenTo l 0 [] := ⟨by simp, by simp⟩
theorem OpenTo.lt {l : List Note} {k : Nat} {S : List Nat} (h : OpenTo l k S) : ∀ i ∈ S, i < k ∧ opAt l i = true := fun i hi => by
  have := h.perm.mem_iff.1 hi
  simpa using this
theorem OpenTo.len {l : List Note} {k : Nat} {S : List Nat} (h : OpenTo l k S) : S.length ≤ k := by
  rw [h.perm.length_eq]
  have := List.length_filter_le (opAt l) (List.range k)
  simpa using this
theorem OpenTo.skip {l : List Note} {k : Nat} {S : List Nat} (h : OpenTo l k S) (hk : opAt l k = false) : OpenTo l (k + 1) S :=
  ⟨by rw [List.range_succ, List.filter_append]; simpa [hk] using h.perm, h.srt⟩
theorem OpenTo.put {l : List Note} {k : Nat} {S : List Nat} (h : OpenTo l k S) (hk : opAt l k = true) (q : Nat)
    (h1 : ∀ i ∈ S.take q, numAt l i ≤ numAt l k) (h2 : ∀ i ∈ S.drop q, numAt l k ≤ numAt l i) : OpenTo l (k + 1) (S.take q ++ k :: S.drop q) := by
  constructor
  · rw [List.range_succ, List.filter_append]
    simp only [List.filter_cons, hk, if_true, List.filter_nil]
    refine List.perm_middle.trans ?_
    rw [List.take_append_drop]
    exact (List.perm_append_singleton k _).symm.trans (List.Perm.append_right _ h.perm)
  · have h3 := h.srt
    rw [← List.take_append_drop q S, List.pairwise_append] at h3
    obtain ⟨p1, p2, p3⟩ := h3
    rw [List.pairwise_append, List.pairwise_cons]
    refine ⟨p1, ⟨h2, p2⟩, fun a ha b hb => ?_⟩
    rcases List.mem_cons.1 hb with rfl | hb
    · exact h1 a ha
    · exact p3 a ha b hb
theorem OpenTo.first {l : List Note} {k : Nat} {S : List Nat} (h : OpenTo l k S) {q : Nat} (hq : q < S.length) {v : Int} (hv : numAt l S[q] ≤ v) : ∀ i ∈ S.take (q + 1), numAt l i ≤ v := fun i hi => by
  obtain ⟨j, hj, e⟩ := List.mem_take_iff_getElem.1 hi
  have h3 := List.pairwise_iff_getElem.1 h.srt
  by_cases he : j = q
  · subst he; rw [← e]; exact hv
  · have := h3 j q (by omega) hq (by omega)
    rw [e] at this; omega
theorem filter_range (l : List Note) : ∀ k, k ≤ l.length → ((List.range k).filter (opAt l)).map (numAt l) = openL (l.take k)
  | 0, _ => by simp [openL]
  | k + 1, h => by
    have hk : k < l.length := by omega
    rw [List.range_succ, List.filter_append, List.map_append, filter_range l k (by omega), openL_snoc l k hk]
    congr 1
    have e : l[k]? = some l[k] := by simp [hk]
    by_cases h1 : l[k].signed = 1
    · simp [opAt, e, h1, numAt]
    · simp [opAt, e, h1]
theorem OpenTo.nums {l : List Note} {S : List Nat} (h : OpenTo l l.length S) : S.map (numAt l) = isort (openL l) := by
  have h1 : (S.map (numAt l)).Perm (isort (openL l)) := by
    refine (h.perm.map _).trans ?_
    rw [filter_range l _ (Nat.le_refl _), List.take_length]
    exact (List.mergeSort_perm _ _).symm
  refine h1.eq_of_pairwise (le := (· ≤ ·)) (fun a b _ _ h2 h3 => by omega) (by rw [List.pairwise_map]; exact h.srt) ?_
  have := List.pairwise_mergeSort (le := fun x y : Int => decide (x ≤ y)) (fun a b c h1 h2 => by simp at *; omega) (fun a b => by simp; omega) (openL l)
  exact this.imp fun h => by simpa using h
theorem isort_mem {l : List Int} {n : Int} : n ∈ isort l ↔ n ∈ l := (List.mergeSort_perm l _).mem_iff
theorem isort_nodup {l : List Int} (h : l.Nodup) : (isort l).Nodup := (List.mergeSort_perm l _).nodup_iff.2 h
theorem isort_sorted (l : List Int) : (isort l).Pairwise (· ≤ ·) := by
  have := List.pairwise_mergeSort (le := fun x y : Int => decide (x ≤ y)) (fun a b c h1 h2 => by simp at *; omega) (fun a b => by simp; omega) l
  exact this.imp fun h => by simpa using h
theorem truthB_mem {o o' s : List Int} (h : ∀ n, n ∈ o ↔ n ∈ o') : truthB o s = truthB o' s := by
  have e : truthP o s ↔ truthP o' s := by simp only [truthP, h]
  rw [Bool.eq_iff_iff, truthB_iff, truthB_iff]; exact e
/-! ### What is in force -/
theorem frcL_len' (signed without : List Int) (m : Int) : ∀ l, (frcL signed without m l).length = l.length
  | [] => rfl
  | x :: r => by simp [frcL, frcL_len' signed without m r]
theorem frcL_drop' (signed without : List Int) (m : Int) : ∀ (l : List Note) (k : Nat), (frcL signed without m l).drop k = frcL signed without m (l.drop k)
  | _, 0 => rfl
  | [], _ + 1 => rfl
  | x :: r, k + 1 => by simp [frcL, frcL_drop' signed without m r k]
theorem frcL_at {s w : List Int} {m : Int} {l : List Note} {k : Nat} (hk : k < l.length) (hk' : k < (frcL s w m l).length) : (frcL s w m l)[k] = (frcB s w m l[k] && frcO l[k].number (l.drop (k + 1)) ((frcL s w m l).drop (k + 1))) := by
  have h1 := frcL_drop' s w m l k
  rw [List.drop_eq_getElem_cons hk, List.drop_eq_getElem_cons hk', frcL] at h1
  rw [frcL_drop']
  exact (List.cons.inj h1).1
theorem frcO_step {n : Int} {l : List Note} {F : List Bool} {k : Nat} (hk : k < l.length) (hf : k < F.length) : frcO n (l.drop k) (F.drop k) = (!(F[k] && decide (l[k].cancels = n)) && frcO n (l.drop (k + 1)) (F.drop (k + 1))) := by
  rw [List.drop_eq_getElem_cons hk, List.drop_eq_getElem_cons hf, frcO]
theorem frcO_end {n : Int} {l : List Note} {F : List Bool} {k : Nat} (hk : l.length ≤ k) : frcO n (l.drop k) (F.drop k) = true := by
  rw [List.drop_eq_nil_of_le hk]; rfl
/-- The numbers of those among the first k that are in force. -/
def inT (l : List Note) (F : List Bool) (k : Nat) : List Int := (((l.zip F).take k).filter (·.2)).map (·.1.number)
theorem inT_zero (l : List Note) (F : List Bool) : inT l F 0 = [] := by simp [inT]
theorem inT_succ {l : List Note} {F : List Bool} {k : Nat} (hk : k < l.length) (hf : k < F.length) : inT l F (k + 1) = inT l F k ++ (if F[k] = true then [l[k].number] else []) := by
  unfold inT
  rw [List.take_succ_eq_append_getElem (by simp; omega), List.filter_append, List.map_append]
  congr 1
  rw [List.getElem_zip]
  by_cases e : F[k] = true <;> simp [e]
theorem inT_len (l : List Note) (F : List Bool) (k : Nat) : (inT l F k).length ≤ k := by
  unfold inT
  rw [List.length_map]
  refine Nat.le_trans (List.length_filter_le _ _) ?_
  rw [List.length_take]; omega
/-- The note by which a drawing has its letter. -/
def note1 : Note := ⟨0, 0, 0, 0, 1, 0, 0, 0, false, 0⟩
def byN (l : List Note) (b : List Bool) (d : Int) : Nat → Note
  | 0 => note1
  | k + 1 => match l[k]? with
    | some x => if b[k]? = some true ∧ x.drawing = d then x else byN l b d k
    | none => note1
theorem byN_K (l : List Note) (b : List Bool) (d : Int) : ∀ k, k ≤ l.length → byN l b d k = if byK l b d k < 0 then note1 else match l[(byK l b d k).toNat]? with | some x => x | none => note1
  | 0, _ => by simp [byN, byK]
  | k + 1, h => by
    have hk : k < l.length := by omega
    have e : l[k]? = some l[k] := by simp [hk]
    simp only [byN, byK, e, Option.map_some, Option.some.injEq]
    split
    · rw [if_neg (by omega)]; simp [e]
    · exact byN_K l b d k (by omega)
end Go.Proofs
namespace Go.Proofs
open Go Go.Ab
set_option linter.unusedSimpArgs false
variable {G : Nat → Option (List IC)}
theorem rnT_A {n : Notes} {i : Nat} {x : Note} (h : ¬ (1 ≤ x.number ∧ x.number ≤ 9999 ∧ 0 ≤ x.day ∧ x.day ≤ 14610 ∧ x.signed ≤ 2 ∧ 1 ≤ x.frm ∧ x.frm ≤ x.to ∧ x.to ≤ 999 ∧ x.ways ≤ 3)) : rnT n i x = false := by
  have : rnA x = false := by
    rw [← Bool.not_eq_true]; simp only [rnA, Bool.and_eq_true, decide_eq_true_eq]; omega
  simp [rnT, this]
theorem rnT_B {n : Notes} {i : Nat} {x : Note} {f : Bool} (hf : (findI n.reg x.drawing x.letter).isSome = f) (h : ¬ ((x.drawing = 0 ∧ x.letter = 0 → x.cancels ≠ 0) ∧ (¬ (x.drawing = 0 ∧ x.letter = 0) → f = true))) : rnT n i x = false := by
  have : rnB n.reg x = false := by
    rw [← Bool.not_eq_true]; unfold rnB; rw [hf]
    split <;> simp_all
  simp [rnT, this]
theorem rnT_D {n : Notes} {i : Nat} {x : Note} (h : x.letter < 2 ∧ (x.useUp = true ∨ 0 < x.ways)) : rnT n i x = false := by
  have : rnD x = false := by
    obtain ⟨h1, h2⟩ := h
    rw [rnD, Bool.not_eq_false']
    rcases h2 with h2 | h2 <;> simp [h1, h2]
  simp [rnT, this]
theorem rnT_E {n : Notes} {i : Nat} {x : Note} (h : nk7 n.notes i x = false) : rnT n i x = false := by simp [rnT, h]
theorem rnT_F {n : Notes} {i : Nat} {x : Note} {f : Bool} (hf : (findI n.reg x.drawing x.letter).isSome = f) (h : 1 ≤ x.number ∧ x.number ≤ 9999 ∧ 0 ≤ x.day ∧ x.day ≤ 14610 ∧ x.signed ≤ 2 ∧ 1 ≤ x.frm ∧ x.frm ≤ x.to ∧ x.to ≤ 999 ∧ x.ways ≤ 3)
    (hb : (x.drawing = 0 ∧ x.letter = 0 → x.cancels ≠ 0) ∧ (¬ (x.drawing = 0 ∧ x.letter = 0) → f = true)) (hd : ¬ (x.letter < 2 ∧ (x.useUp = true ∨ 0 < x.ways))) (he : nk7 n.notes i x = true) : rnT n i x = (nk6 n.notes i x && nk8 n.notes i x) := by
  have h1 : rnA x = true := by simp only [rnA, Bool.and_eq_true, decide_eq_true_eq]; omega
  have h2 : rnB n.reg x = true := by
    unfold rnB; rw [hf]
    split <;> simp_all
  have h3 : rnD x = true := by
    rw [rnD, Bool.not_eq_true', ← Bool.not_eq_true]; simpa using hd
  simp [rnT, h1, h2, h3, he]
def bfK (l : List Note) (x : Note) (k : Nat) : Bool := decide (x.cancels = 0) || (l.take k).any fun y => decide (y.number = x.cancels)
theorem bfK_succ {l : List Note} {x : Note} {k : Nat} (hk : k < l.length) : bfK l x (k + 1) = (bfK l x k || decide (l[k].number = x.cancels)) := by
  unfold bfK
  rw [List.take_succ_eq_append_getElem hk, List.any_append]
  simp [Bool.or_assoc]
def nosame (l : List Note) (x : Note) (k : Nat) : Prop := ((l.take k).any fun y => decide (y.number = x.number)) = false
theorem nosame_succ {l : List Note} {x : Note} {k : Nat} (hk : k < l.length) (h : nosame l x k) (h2 : ¬ l[k].number = x.number) : nosame l x (k + 1) := by
  unfold nosame at *
  rw [List.take_succ_eq_append_getElem hk, List.any_append, h]
  simp [h2]
theorem nk7_bad {l : List Note} {x : Note} {k i : Nat} (hki : k < i) (hk : k < l.length) (h2 : l[k].number = x.number) : nk7 l i x = false := by
  unfold nk7
  rw [Bool.not_eq_false', List.any_eq_true]
  exact ⟨l[k], List.mem_take_iff_getElem.2 ⟨k, by omega, rfl⟩, by simp [h2]⟩
set_option maxHeartbeats 2000000 in
theorem note3_c (n : Notes) (i : Nat) (x : Note) (hx : n.notes[i]? = some x) (hl : n.notes.length < 1000) (hr : n.reg.length < 1000) (objs : List DObj) : DCall Tryd.prog G 103 [notesv n, iv (i : Int)] objs (fun rr objs' => rr = bv (rnT n i x) ∧ objs' = objs) := by
  refine DCall.frame ?_ (by simp) (by simp) objs
  refine DCall_intro Tryd.func103 rfl Tryd.ntmps103 (by simp) rfl ?_
  try simp only [notesv, iv]
  have hi : i < n.notes.length := lt_of_getElem? hx
  have hxe : n.notes[i] = x := (List.getElem?_eq_some_iff.1 hx).2
  have c1 := within3_c (G := G) x.number 1 9999
  have c2 := within3_c (G := G) x.day 0 14610
  have c3 := within3_c (G := G) x.frm 1 x.to
  have c4 := find_c (G := G) n.reg x.drawing x.letter (by omega)
  simp only [refv] at c4
  generalize hf : (findI n.reg x.drawing x.letter).isSome = f at *
  have c5 : ∀ (h : x.drawing = 0) objs, DCall Tryd.prog G 125 [regv n.reg, refv 0 x.letter] objs (fun r objs' => r = .tup [issv ((findI n.reg x.drawing x.letter).getD zIssue), bv f] ∧ objs' = objs) := fun h => by
    rw [h] at c4 ⊢; exact c4
  simp only [refv] at c5
  have hs : True := trivial
  repeat' first | (with_reducible first | refine q01 ?_ | refine q02 ?_ | refine q03 ?_ | refine q04 ?_ | refine q05 ?_ | refine q06 ?_ | refine q07 (by decide) ?_ | refine q08 ?_ | refine q09 ?_ | refine q10 ?_ | refine q11 ?_ | refine q12 ?_ | refine q13 ?_ | refine q14 ?_ | refine q15 ?_ | refine q16 ?_ | refine q17 ?_ | refine And.intro (by omega) ?_) | (with_reducible refine At.fn_ret (by simp -dsimp [hxe, hi, hs]; exact rfl) ?_) | (with_reducible refine At.fn_end (by simp -dsimp [hxe, hi, hs]; exact rfl) ?_) | (refine CallE.pure (c1) ?_; try simp -dsimp [hxe, hi, hs]) | (refine CallE.pure (c2) ?_; try simp -dsimp [hxe, hi, hs]) | (refine CallE.pure (c3) ?_; try simp -dsimp [hxe, hi, hs]) | (refine CallE.pure (c4) ?_; try simp -dsimp [hxe, hi, hs]) | (refine CallE.pure (c5 ‹_›) ?_; try simp -dsimp [hxe, hi, hs]) | (with_reducible refine DT_regionE [0, 1, 2, 4, 5, 7, 8, 9, 10, 11, 49, 57, 60, 73, 85, 91, 103, 113] ?_; simp -dsimp [hxe, hi, hs]) | (refine DT_cond rfl (fun h => ?_) (fun h => ?_) <;> (try simp only [nrm] at h) <;> (try exact Bool.noConfusion h)) | (with_reducible refine GStop_split ?_ ?_ <;> intro h <;> have h0 := h <;> (try simp only [nrm] at h) <;> (try exact Bool.noConfusion h) <;> have h2 := h <;> (try simp at h2) <;> (replace hs := And.intro h0 (And.intro h (And.intro h2 hs))) <;> simp -dsimp [h0, h, h2, hxe, hi, hs]) | (with_reducible refine imp_At (fun h => ?_); (try simp only [List.map_eq_nil_iff] at h); (try subst h); try simp -dsimp [hxe, hi, hs]) | with_reducible refine And.intro ?_ ?_
  all_goals try simp -dsimp [hxe, hi, hs]
  all_goals try clear hs
  all_goals clear c1 c2 c3 c4 c5 hx
  all_goals try (refine rnT_A ?_; omega)
  all_goals try (refine rnT_B hf ?_; clear hf hxe; simp_all; done)
  all_goals try (refine rnT_D ?_; clear hf hxe; simp_all; done)
  all_goals
    have hF : nk7 n.notes i x = true → rnT n i x = (nk6 n.notes i x && nk8 n.notes i x) := by
      refine rnT_F hf (by omega) ?_ ?_
      · clear hxe hf; simp_all
      · clear hxe hf; simp_all; try omega
  all_goals refine DT_loop (ι := { k : Nat // k ≤ i ∧ nosame n.notes x k }) (fun p => ⟨143, [(1, iv (i : Int)), (2, .one (.ptr 0 0)), (5, .one (.ptr 1 0)), (8, bv (bfK n.notes x p.1)), (9, iv (p.1 : Int))], [.row ((encNotes n).map .im), .row ((encNote x).map .im)]⟩) (fun p => i - p.1) ⟨0, by simp [nosame]⟩ (Weak.of_drop [1,2,5,8,9] 2 (by simp) (by simp) (by clear hF hf hxe; simp [bfK, *])) ?_
  all_goals
    rintro ⟨k, hk, hno⟩
    simp only [iv, bv]
    by_cases hlt : k < i
    · have hlk : k < n.notes.length := by omega
      have hw : IntKind.i64.wrap ((k : Int) + 1) = ((k + 1 : Nat) : Int) := i64w (by omega) (by omega)
      have hsu := bfK_succ (x := x) hlk
      have hn2 := nosame_succ hlk hno
      have hbad := nk7_bad (x := x) hlt hlk
      generalize hy : n.notes[k] = y at *
      generalize hb : bfK n.notes x k = b at *
      cases b
      all_goals
        have hs : True := trivial
        repeat' first | (with_reducible first | refine q01 ?_ | refine q02 ?_ | refine q03 ?_ | refine q04 ?_ | refine q05 ?_ | refine q06 ?_ | refine q07 (by decide) ?_ | refine q08 ?_ | refine q09 ?_ | refine q10 ?_ | refine q11 ?_ | refine q12 ?_ | refine q13 ?_ | refine q14 ?_ | refine q15 ?_ | refine q16 ?_ | refine q17 ?_ | refine And.intro (by omega) ?_) | (with_reducible refine At.fn_ret (by simp -dsimp [hxe, hi, hy, hlt, hlk, hw, hs]; exact rfl) ?_) | (with_reducible refine At.fn_end (by simp -dsimp [hxe, hi, hy, hlt, hlk, hw, hs]; exact rfl) ?_) | (with_reducible refine DT_regionE [0, 1, 2, 4, 5, 7, 8, 9, 10, 11, 49, 57, 60, 73, 85, 91, 103, 113] ?_; simp -dsimp [hxe, hi, hy, hlt, hlk, hw, hs]) | (refine DT_cond rfl (fun h => ?_) (fun h => ?_) <;> (try simp only [nrm] at h) <;> (try exact Bool.noConfusion h)) | (with_reducible refine GStop_split ?_ ?_ <;> intro h <;> have h0 := h <;> (try simp only [nrm] at h) <;> (try exact Bool.noConfusion h) <;> have h2 := h <;> (try simp at h2) <;> (replace hs := And.intro h0 (And.intro h (And.intro h2 hs))) <;> simp -dsimp [h0, h, h2, hxe, hi, hy, hlt, hlk, hw, hs]) | (with_reducible refine imp_At (fun h => ?_); (try simp only [List.map_eq_nil_iff] at h); (try subst h); try simp -dsimp [hxe, hi, hy, hlt, hlk, hw, hs]) | with_reducible refine And.intro ?_ ?_
        all_goals try simp -dsimp [hxe, hi, hy, hlt, hlk, hw, hs]
        all_goals try clear hs
      all_goals try (rw [show rnT n i x = false from rnT_E (hbad (by assumption))]; done)
      all_goals exact At.round ⟨k + 1, by omega, hn2 (by assumption)⟩ (by simp; omega) (Weak.of_drop [1,2,5,8,9] 2 (by simp) (by simp) (by simp [hsu]))
    · have e : k = i := by omega
      subst e
      have hT := hF (by unfold nk7; rw [show ((n.notes.take k).any fun y => decide (y.number = x.number)) = false from hno]; rfl)
      rw [show nk6 n.notes k x = bfK n.notes x k from rfl] at hT
      by_cases h00 : k = 0
      · have hk0 : (k : Int) = 0 := by omega
        have hs : True := trivial
        repeat' first | (with_reducible first | refine q01 ?_ | refine q02 ?_ | refine q03 ?_ | refine q04 ?_ | refine q05 ?_ | refine q06 ?_ | refine q07 (by decide) ?_ | refine q08 ?_ | refine q09 ?_ | refine q10 ?_ | refine q11 ?_ | refine q12 ?_ | refine q13 ?_ | refine q14 ?_ | refine q15 ?_ | refine q16 ?_ | refine q17 ?_ | refine And.intro (by omega) ?_) | (with_reducible refine At.fn_ret (by simp -dsimp [hlt, hk0, hs]; exact rfl) ?_) | (with_reducible refine At.fn_end (by simp -dsimp [hlt, hk0, hs]; exact rfl) ?_) | (with_reducible refine DT_regionE [0, 1, 2, 4, 5, 7, 8, 9, 10, 11, 49, 57, 60, 73, 85, 91, 103, 113] ?_; simp -dsimp [hlt, hk0, hs]) | (refine DT_cond rfl (fun h => ?_) (fun h => ?_) <;> (try simp only [nrm] at h) <;> (try exact Bool.noConfusion h)) | (with_reducible refine GStop_split ?_ ?_ <;> intro h <;> have h0 := h <;> (try simp only [nrm] at h) <;> (try exact Bool.noConfusion h) <;> have h2 := h <;> (try simp at h2) <;> (replace hs := And.intro h0 (And.intro h (And.intro h2 hs))) <;> simp -dsimp [h0, h, h2, hlt, hk0, hs]) | (with_reducible refine imp_At (fun h => ?_); (try simp only [List.map_eq_nil_iff] at h); (try subst h); try simp -dsimp [hlt, hk0, hs]) | with_reducible refine And.intro ?_ ?_
        all_goals try simp -dsimp [hlt, hk0, hs]
        all_goals try clear hs
        rw [hT, nk8, if_pos h00, Bool.and_true]
      · have hk1 : k - 1 < n.notes.length := by omega
        have hk0 : ¬ (k : Int) = 0 := by omega
        have hw : IntKind.i64.wrap ((k : Int) - 1) = ((k - 1 : Nat) : Int) := by rw [i64w (by omega) (by omega)]; omega
        have h8 : nk8 n.notes k x = befN n.notes[k - 1] x := by rw [nk8, if_neg h00, List.getElem?_eq_getElem hk1]
        rw [h8] at hT
        generalize hy : n.notes[k - 1] = y at *
        generalize hb : bfK n.notes x k = b at *
        cases b
        all_goals
          have hs : True := trivial
          repeat' first | (with_reducible first | refine q01 ?_ | refine q02 ?_ | refine q03 ?_ | refine q04 ?_ | refine q05 ?_ | refine q06 ?_ | refine q07 (by decide) ?_ | refine q08 ?_ | refine q09 ?_ | refine q10 ?_ | refine q11 ?_ | refine q12 ?_ | refine q13 ?_ | refine q14 ?_ | refine q15 ?_ | refine q16 ?_ | refine q17 ?_ | refine And.intro (by omega) ?_) | (with_reducible refine At.fn_ret (by simp -dsimp [hxe, hi, hy, hk1, hw, hk0, h00, hs]; exact rfl) ?_) | (with_reducible refine At.fn_end (by simp -dsimp [hxe, hi, hy, hk1, hw, hk0, h00, hs]; exact rfl) ?_) | (with_reducible refine DT_regionE [0, 1, 2, 4, 5, 7, 8, 9, 10, 11, 49, 57, 60, 73, 85, 91, 103, 113] ?_; simp -dsimp [hxe, hi, hy, hk1, hw, hk0, h00, hs]) | (refine DT_cond rfl (fun h => ?_) (fun h => ?_) <;> (try simp only [nrm] at h) <;> (try exact Bool.noConfusion h)) | (with_reducible refine GStop_split ?_ ?_ <;> intro h <;> have h0 := h <;> (try simp only [nrm] at h) <;> (try exact Bool.noConfusion h) <;> have h2 := h <;> (try simp at h2) <;> (replace hs := And.intro h0 (And.intro h (And.intro h2 hs))) <;> simp -dsimp [h0, h, h2, hxe, hi, hy, hk1, hw, hk0, h00, hs]) | (with_reducible refine imp_At (fun h => ?_); (try simp only [List.map_eq_nil_iff] at h); (try subst h); try simp -dsimp [hxe, hi, hy, hk1, hw, hk0, h00, hs]) | with_reducible refine And.intro ?_ ?_
          all_goals try simp -dsimp [hxe, hi, hy, hk1, hw, hk0, h00, hs]
          all_goals try clear hs
        all_goals rw [hT]
        all_goals try (rfl; done)
        all_goals (rw [Bool.true_and, Bool.eq_iff_iff]; simp only [befN, Bool.or_eq_true, Bool.and_eq_true, decide_eq_true_eq, iff_true, iff_false, Bool.false_eq_true]; omega)
end Go.Proofs
namespace Go.Proofs
open Go Go.Ab
set_option linter.unusedSimpArgs false
variable {G : Nat → Option (List IC)}
def NSm (n : Notes) : Prop := SmallR n.reg ∧ n.notes.length ≤ 16 ∧ ∀ x ∈ n.notes, 0 ≤ x.ways ∧ x.ways ≤ 255 ∧ 0 ≤ x.signed ∧ x.signed ≤ 255
theorem openL_succ_len {l : List Note} {k : Nat} (h : k < l.length) : ((openL (l.take (k + 1))).length : Int) = (openL (l.take k)).length + (if l[k].signed = 1 then 1 else 0) := by
  rw [openL_snoc l k h]
  split <;> simp
set_option maxHeartbeats 1000000 in
theorem notes3_c (n : Notes) (hs : NSm n) (h0 : checkR n.reg = 0) (objs : List DObj) : DCall Tryd.prog G 62 [notesv n] objs (fun rr objs' => rr = bv (notesB n) ∧ objs' = objs) := by
  refine DCall.frame ?_ (by simp) (by simp) objs
  refine DCall_intro Tryd.func62 rfl Tryd.ntmps62 (by simp) rfl ?_
  try simp only [notesv]
  obtain ⟨hsr, hsn, hsx⟩ := hs
  have hr := hsr.1
  by_cases hl : n.notes.length ≤ 12
  · have hli : ¬ (12 : Int) < n.notes.length := by omega
    have hs : True := trivial
    repeat' first | (with_reducible first | refine q01 ?_ | refine q02 ?_ | refine q03 ?_ | refine q04 ?_ | refine q05 ?_ | refine q06 ?_ | refine q07 (by decide) ?_ | refine q08 ?_ | refine q09 ?_ | refine q10 ?_ | refine q11 ?_ | refine q12 ?_ | refine q13 ?_ | refine q14 ?_ | refine q15 ?_ | refine q16 ?_ | refine q17 ?_ | refine And.intro (by omega) ?_) | (with_reducible refine At.fn_ret (by simp -dsimp [hli, hs]; exact rfl) ?_) | (with_reducible refine At.fn_end (by simp -dsimp [hli, hs]; exact rfl) ?_) | (with_reducible refine DT_regionE [0, 1, 2, 3, 4, 8, 13, 19, 26] ?_; simp -dsimp [hli, hs]) | (refine DT_cond rfl (fun h => ?_) (fun h => ?_) <;> (try simp only [nrm] at h) <;> (try exact Bool.noConfusion h)) | (with_reducible refine GStop_split ?_ ?_ <;> intro h <;> have h0 := h <;> (try simp only [nrm] at h) <;> (try exact Bool.noConfusion h) <;> have h2 := h <;> (try simp at h2) <;> (replace hs := And.intro h0 (And.intro h (And.intro h2 hs))) <;> simp -dsimp [h0, h, h2, hli, hs]) | (with_reducible refine imp_At (fun h => ?_); (try simp only [List.map_eq_nil_iff] at h); (try subst h); try simp -dsimp [hli, hs]) | with_reducible refine And.intro ?_ ?_
    all_goals try simp -dsimp [hli, hs]
    all_goals try clear hs
    refine DT_loop (ι := { k : Nat // k ≤ n.notes.length ∧ ∀ (j : Nat) (x : Note), j < k → n.notes[j]? = some x → nkA n j x = true }) (fun p => ⟨31, [(1, .one (.ptr 0 0)), (3, iv ((openL (n.notes.take p.1)).length : Int)), (4, iv (p.1 : Int))], [.row ((encNotes n).map .im)]⟩) (fun p => n.notes.length - p.1) ⟨0, by simp⟩ (Weak.of_keep [1,3,4] (by simp [openL])) ?_
    rintro ⟨k, hk, hok⟩
    simp only [iv]
    by_cases hlt : k < n.notes.length
    · have hx0 : n.notes[k]? = some n.notes[k] := by simp [hlt]
      have hw : IntKind.i64.wrap ((k : Int) + 1) = ((k + 1 : Nat) : Int) := i64w (by omega) (by omega)
      have hos := openL_succ_len hlt
      have hol := openL_len (n.notes.take k)
      rw [List.length_take] at hol
      have hw2 : IntKind.i64.wrap (((openL (n.notes.take k)).length : Int) + 1) = ((openL (n.notes.take k)).length : Int) + 1 := i64w (by omega) (by omega)
      have hsx' := hsx n.notes[k] (List.getElem_mem hlt)
      generalize hx : n.notes[k] = x at *
      have c1 := note3_c (G := G) n k x hx0 (by omega) (by omega)
      rw [rnT_eq h0 hsx'.1] at c1
      have hbad : nkA n k x = false → notesB n = false := fun h => by
        rw [← Bool.not_eq_true]
        intro hb
        have := (notesB_iff.1 hb).2.1 k x hx0
        rw [h] at this; cases this
      have hstep : nkA n k x = true → ∀ (j : Nat) (z : Note), j < k + 1 → n.notes[j]? = some z → nkA n j z = true := fun h j z hj hz => by
        by_cases e : j = k
        · subst e; rw [hx0] at hz; cases hz; exact h
        · exact hok j z (by omega) hz
      generalize nkA n k x = q at *
      cases q
      · have hs : True := trivial
        repeat' first | (with_reducible first | refine q01 ?_ | refine q02 ?_ | refine q03 ?_ | refine q04 ?_ | refine q05 ?_ | refine q06 ?_ | refine q07 (by decide) ?_ | refine q08 ?_ | refine q09 ?_ | refine q10 ?_ | refine q11 ?_ | refine q12 ?_ | refine q13 ?_ | refine q14 ?_ | refine q15 ?_ | refine q16 ?_ | refine q17 ?_ | refine And.intro (by omega) ?_) | (with_reducible refine At.fn_ret (by simp -dsimp [hx, hlt, hw, hs]; exact rfl) ?_) | (with_reducible refine At.fn_end (by simp -dsimp [hx, hlt, hw, hs]; exact rfl) ?_) | (refine CallE.pure (c1) ?_; try simp -dsimp [hx, hlt, hw, hs]) | (with_reducible refine DT_regionE [0, 1, 2, 3, 4, 8, 13, 19, 26] ?_; simp -dsimp [hx, hlt, hw, hs]) | (refine DT_cond rfl (fun h => ?_) (fun h => ?_) <;> (try simp only [nrm] at h) <;> (try exact Bool.noConfusion h)) | (with_reducible refine GStop_split ?_ ?_ <;> intro h <;> have h0 := h <;> (try simp only [nrm] at h) <;> (try exact Bool.noConfusion h) <;> have h2 := h <;> (try simp at h2) <;> (replace hs := And.intro h0 (And.intro h (And.intro h2 hs))) <;> simp -dsimp [h0, h, h2, hx, hlt, hw, hs]) | (with_reducible refine imp_At (fun h => ?_); (try simp only [List.map_eq_nil_iff] at h); (try subst h); try simp -dsimp [hx, hlt, hw, hs]) | with_reducible refine And.intro ?_ ?_
        all_goals try simp -dsimp [hx, hlt, hw, hs]
        all_goals try clear hs
        exact hbad rfl
      · have hs : True := trivial
        repeat' first | (with_reducible first | refine q01 ?_ | refine q02 ?_ | refine q03 ?_ | refine q04 ?_ | refine q05 ?_ | refine q06 ?_ | refine q07 (by decide) ?_ | refine q08 ?_ | refine q09 ?_ | refine q10 ?_ | refine q11 ?_ | refine q12 ?_ | refine q13 ?_ | refine q14 ?_ | refine q15 ?_ | refine q16 ?_ | refine q17 ?_ | refine And.intro (by omega) ?_) | (with_reducible refine At.fn_ret (by simp -dsimp [hx, hlt, hw, hw2, hs]; exact rfl) ?_) | (with_reducible refine At.fn_end (by simp -dsimp [hx, hlt, hw, hw2, hs]; exact rfl) ?_) | (refine CallE.pure (c1) ?_; try simp -dsimp [hx, hlt, hw, hw2, hs]) | (with_reducible refine DT_regionE [0, 1, 2, 3, 4, 8, 13, 19, 26] ?_; simp -dsimp [hx, hlt, hw, hw2, hs]) | (refine DT_cond rfl (fun h => ?_) (fun h => ?_) <;> (try simp only [nrm] at h) <;> (try exact Bool.noConfusion h)) | (with_reducible refine GStop_split ?_ ?_ <;> intro h <;> have h0 := h <;> (try simp only [nrm] at h) <;> (try exact Bool.noConfusion h) <;> have h2 := h <;> (try simp at h2) <;> (replace hs := And.intro h0 (And.intro h (And.intro h2 hs))) <;> simp -dsimp [h0, h, h2, hx, hlt, hw, hw2, hs]) | (with_reducible refine imp_At (fun h => ?_); (try simp only [List.map_eq_nil_iff] at h); (try subst h); try simp -dsimp [hx, hlt, hw, hw2, hs]) | with_reducible refine And.intro ?_ ?_
        all_goals try simp -dsimp [hx, hlt, hw, hw2, hs]
        all_goals try clear hs
        all_goals exact At.round ⟨k + 1, by omega, hstep rfl⟩ (by simp; omega) (Weak.of_keep [1,3,4] (by simp [hos, *]))
    · have e : k = n.notes.length := by omega
      subst e
      rw [List.take_length]
      have hs : True := trivial
      repeat' first | (with_reducible first | refine q01 ?_ | refine q02 ?_ | refine q03 ?_ | refine q04 ?_ | refine q05 ?_ | refine q06 ?_ | refine q07 (by decide) ?_ | refine q08 ?_ | refine q09 ?_ | refine q10 ?_ | refine q11 ?_ | refine q12 ?_ | refine q13 ?_ | refine q14 ?_ | refine q15 ?_ | refine q16 ?_ | refine q17 ?_ | refine And.intro (by omega) ?_) | (with_reducible refine At.fn_ret (by simp -dsimp [hlt, hs]; exact rfl) ?_) | (with_reducible refine At.fn_end (by simp -dsimp [hlt, hs]; exact rfl) ?_) | (with_reducible refine DT_regionE [0, 1, 2, 3, 4, 8, 13, 19, 26] ?_; simp -dsimp [hlt, hs]) | (refine DT_cond rfl (fun h => ?_) (fun h => ?_) <;> (try simp only [nrm] at h) <;> (try exact Bool.noConfusion h)) | (with_reducible refine GStop_split ?_ ?_ <;> intro h <;> have h0 := h <;> (try simp only [nrm] at h) <;> (try exact Bool.noConfusion h) <;> have h2 := h <;> (try simp at h2) <;> (replace hs := And.intro h0 (And.intro h (And.intro h2 hs))) <;> simp -dsimp [h0, h, h2, hlt, hs]) | (with_reducible refine imp_At (fun h => ?_); (try simp only [List.map_eq_nil_iff] at h); (try subst h); try simp -dsimp [hlt, hs]) | with_reducible refine And.intro ?_ ?_
      all_goals try simp -dsimp [hlt, hs]
      all_goals try clear hs
      rw [Bool.eq_iff_iff, notesB_iff]
      simp only [decide_eq_true_eq]
      constructor
      · intro h
        exact ⟨hl, fun j x hx => hok j x (lt_of_getElem? hx) hx, by omega⟩
      · intro h
        have := h.2.2; omega
  · have hli : (12 : Int) < n.notes.length := by omega
    have hs : True := trivial
    repeat' first | (with_reducible first | refine q01 ?_ | refine q02 ?_ | refine q03 ?_ | refine q04 ?_ | refine q05 ?_ | refine q06 ?_ | refine q07 (by decide) ?_ | refine q08 ?_ | refine q09 ?_ | refine q10 ?_ | refine q11 ?_ | refine q12 ?_ | refine q13 ?_ | refine q14 ?_ | refine q15 ?_ | refine q16 ?_ | refine q17 ?_ | refine And.intro (by omega) ?_) | (with_reducible refine At.fn_ret (by simp -dsimp [hli, hs]; exact rfl) ?_) | (with_reducible refine At.fn_end (by simp -dsimp [hli, hs]; exact rfl) ?_) | (with_reducible refine DT_regionE [0, 1, 2, 3, 4, 8, 13, 19, 26] ?_; simp -dsimp [hli, hs]) | (refine DT_cond rfl (fun h => ?_) (fun h => ?_) <;> (try simp only [nrm] at h) <;> (try exact Bool.noConfusion h)) | (with_reducible refine GStop_split ?_ ?_ <;> intro h <;> have h0 := h <;> (try simp only [nrm] at h) <;> (try exact Bool.noConfusion h) <;> have h2 := h <;> (try simp at h2) <;> (replace hs := And.intro h0 (And.intro h (And.intro h2 hs))) <;> simp -dsimp [h0, h, h2, hli, hs]) | (with_reducible refine imp_At (fun h => ?_); (try simp only [List.map_eq_nil_iff] at h); (try subst h); try simp -dsimp [hli, hs]) | with_reducible refine And.intro ?_ ?_
    all_goals try simp -dsimp [hli, hs]
    all_goals try clear hs
    exact Bool.eq_false_iff.2 fun h => hl (notesB_iff.1 h).1
theorem check3_c (n : Notes) (hs : NSm n) (objs : List DObj) : DCall Tryd.prog G 25 [notesv n] objs (fun rr objs' => rr = iv (notesE n) ∧ objs' = objs) := by
  refine DCall.frame ?_ (by simp) (by simp) objs
  refine DCall_intro Tryd.func25 rfl Tryd.ntmps25 (by simp) rfl ?_
  try simp only [notesv]
  have c1 := rcheck_c (G := G) n.reg hs.1
  by_cases h0 : checkR n.reg = 0
  · have c2 := notes3_c (G := G) n hs h0
    have hE : notesE n = if notesB n then 0 else 30 := by unfold notesE; rw [if_neg (by simp [h0])]
    rw [h0] at c1
    generalize notesB n = q at *
    cases q
    · have hs : True := trivial
      repeat' first | (with_reducible first | refine q01 ?_ | refine q02 ?_ | refine q03 ?_ | refine q04 ?_ | refine q05 ?_ | refine q06 ?_ | refine q07 (by decide) ?_ | refine q08 ?_ | refine q09 ?_ | refine q10 ?_ | refine q11 ?_ | refine q12 ?_ | refine q13 ?_ | refine q14 ?_ | refine q15 ?_ | refine q16 ?_ | refine q17 ?_ | refine And.intro (by omega) ?_) | (with_reducible refine At.fn_ret (by simp -dsimp [hs]; exact rfl) ?_) | (with_reducible refine At.fn_end (by simp -dsimp [hs]; exact rfl) ?_) | (refine CallE.pure (c1) ?_; try simp -dsimp [hs]) | (refine CallE.pure (c2) ?_; try simp -dsimp [hs]) | (with_reducible refine DT_regionE [0, 1, 2, 3, 8, 12] ?_; simp -dsimp [hs]) | (refine DT_cond rfl (fun h => ?_) (fun h => ?_) <;> (try simp only [nrm] at h) <;> (try exact Bool.noConfusion h)) | (with_reducible refine GStop_split ?_ ?_ <;> intro h <;> have h0 := h <;> (try simp only [nrm] at h) <;> (try exact Bool.noConfusion h) <;> have h2 := h <;> (try simp at h2) <;> (replace hs := And.intro h0 (And.intro h (And.intro h2 hs))) <;> simp -dsimp [h0, h, h2, hs]) | (with_reducible refine imp_At (fun h => ?_); (try simp only [List.map_eq_nil_iff] at h); (try subst h); try simp -dsimp [hs]) | with_reducible refine And.intro ?_ ?_
      all_goals try simp -dsimp [hs]
      all_goals try clear hs
      all_goals simp [hE]
    · have hs : True := trivial
      repeat' first | (with_reducible first | refine q01 ?_ | refine q02 ?_ | refine q03 ?_ | refine q04 ?_ | refine q05 ?_ | refine q06 ?_ | refine q07 (by decide) ?_ | refine q08 ?_ | refine q09 ?_ | refine q10 ?_ | refine q11 ?_ | refine q12 ?_ | refine q13 ?_ | refine q14 ?_ | refine q15 ?_ | refine q16 ?_ | refine q17 ?_ | refine And.intro (by omega) ?_) | (with_reducible refine At.fn_ret (by simp -dsimp [hs]; exact rfl) ?_) | (with_reducible refine At.fn_end (by simp -dsimp [hs]; exact rfl) ?_) | (refine CallE.pure (c1) ?_; try simp -dsimp [hs]) | (refine CallE.pure (c2) ?_; try simp -dsimp [hs]) | (with_reducible refine DT_regionE [0, 1, 2, 3, 8, 12] ?_; simp -dsimp [hs]) | (refine DT_cond rfl (fun h => ?_) (fun h => ?_) <;> (try simp only [nrm] at h) <;> (try exact Bool.noConfusion h)) | (with_reducible refine GStop_split ?_ ?_ <;> intro h <;> have h0 := h <;> (try simp only [nrm] at h) <;> (try exact Bool.noConfusion h) <;> have h2 := h <;> (try simp at h2) <;> (replace hs := And.intro h0 (And.intro h (And.intro h2 hs))) <;> simp -dsimp [h0, h, h2, hs]) | (with_reducible refine imp_At (fun h => ?_); (try simp only [List.map_eq_nil_iff] at h); (try subst h); try simp -dsimp [hs]) | with_reducible refine And.intro ?_ ?_
      all_goals try simp -dsimp [hs]
      all_goals try clear hs
      all_goals simp [hE]
  · have hE : notesE n = checkR n.reg := by unfold notesE; rw [if_pos h0]
    have hs : True := trivial
    repeat' first | (with_reducible first | refine q01 ?_ | refine q02 ?_ | refine q03 ?_ | refine q04 ?_ | refine q05 ?_ | refine q06 ?_ | refine q07 (by decide) ?_ | refine q08 ?_ | refine q09 ?_ | refine q10 ?_ | refine q11 ?_ | refine q12 ?_ | refine q13 ?_ | refine q14 ?_ | refine q15 ?_ | refine q16 ?_ | refine q17 ?_ | refine And.intro (by omega) ?_) | (with_reducible refine At.fn_ret (by simp -dsimp [h0, hs]; exact rfl) ?_) | (with_reducible refine At.fn_end (by simp -dsimp [h0, hs]; exact rfl) ?_) | (refine CallE.pure (c1) ?_; try simp -dsimp [h0, hs]) | (with_reducible refine DT_regionE [0, 1, 2, 3, 8, 12] ?_; simp -dsimp [h0, hs]) | (refine DT_cond rfl (fun h => ?_) (fun h => ?_) <;> (try simp only [nrm] at h) <;> (try exact Bool.noConfusion h)) | (with_reducible refine GStop_split ?_ ?_ <;> intro h <;> have h0 := h <;> (try simp only [nrm] at h) <;> (try exact Bool.noConfusion h) <;> have h2 := h <;> (try simp at h2) <;> (replace hs := And.intro h0 (And.intro h (And.intro h2 hs))) <;> simp -dsimp [h0, h, h2, h0, hs]) | (with_reducible refine imp_At (fun h => ?_); (try simp only [List.map_eq_nil_iff] at h); (try subst h); try simp -dsimp [h0, hs]) | with_reducible refine And.intro ?_ ?_
    all_goals try simp -dsimp [h0, hs]
    all_goals try clear hs
    all_goals simp [hE]
end Go.Proofs
namespace Go.Ab
open Go
/-! ### Maps of answers -/
def encMB (m : List (Int × Bool)) : List (List Value × List DC) := m.map fun p => (kI p.1, [.im (rB p.2)])
def blook (n : Int) : List (Int × Bool) → Option Bool
  | [] => none
  | p :: r => if p.1 = n then some p.2 else blook n r
def bput (n : Int) (v : Bool) : List (Int × Bool) → List (Int × Bool)
  | [] => [(n, v)]
  | p :: r => if p.1 = n then (n, v) :: r else p :: bput n v r
theorem blook_bput (n k : Int) (v : Bool) : ∀ m, blook k (bput n v m) = if n = k then some v else blook k m
  | [] => by simp [bput, blook]
  | p :: r => by
    have ih := blook_bput n k v r
    simp only [bput]
    split
    · rename_i h
      simp only [blook]
      split
      · rfl
      · rename_i h2
        rw [if_neg (by omega)]
    · rename_i h
      simp only [blook, ih]
      split
      · rename_i h2
        rw [if_neg (by omega)]
      · rfl
@[simp] theorem mget_B (m : List (Int × Bool)) (n : Int) : mget [.int .i64 n] (encMB m) [.im (.raw (.bool false))] = [.im (.raw (.bool ((blook n m).getD false)))] := by
  induction m with
  | nil => rfl
  | cons p r ih =>
    have e : encMB (p :: r) = (kI p.1, [.im (rB p.2)]) :: encMB r := rfl
    rw [e]
    simp only [mget, mfind, blook, beqs_k, decide_eq_true_eq] at ih ⊢
    split
    · rfl
    · exact ih
@[simp] theorem mhas_B (m : List (Int × Bool)) (n : Int) : mhas [.int .i64 n] (encMB m) = (blook n m).isSome := by
  induction m with
  | nil => rfl
  | cons p r ih =>
    have e : encMB (p :: r) = (kI p.1, [.im (rB p.2)]) :: encMB r := rfl
    rw [e]
    simp only [mhas, mfind, blook, beqs_k, decide_eq_true_eq] at ih ⊢
    split
    · rfl
    · exact ih
@[simp] theorem mset_B (m : List (Int × Bool)) (n : Int) (v : Bool) : mset [.int .i64 n] [.im (.raw (.bool v))] (encMB m) = encMB (bput n v m) := by
  induction m with
  | nil => rfl
  | cons p r ih =>
    have e : encMB (p :: r) = (kI p.1, [.im (rB p.2)]) :: encMB r := rfl
    rw [e]
    simp only [mset, bput, beqs_k, decide_eq_true_eq] at ih ⊢
    split
    · rfl
    · rw [ih]; rfl
@[simp] theorem encMB_len (m : List (Int × Bool)) : (encMB m).length = m.length := by simp [encMB]
theorem encMB_nil : ([] : List (List Value × List DC)) = encMB [] := rfl
@[simp] theorem map_fz_B (n : Nat) (objs : List DObj) (m : List (Int × Bool)) : ((encMB m).map fun x => (x.1, x.2.map (fz n objs))) = encMB m := by
  simp [encMB, fz, DC.lt]
@[simp] theorem map_rn_B (e : Nat → Nat) (m : List (Int × Bool)) : ((encMB m).map fun x => (x.1, rnL e x.2)) = encMB m := by
  simp [encMB, rnL, rnC]
section
variable {P : Program} {G : Nat → Option (List IC)}
/-- At a call: some of the objects are the callee's, and what they are behind it is known in part. -/
theorem CallE.embed_ex {ι : Type} {f : FuncId} {args args0 : List DV} {objs objs0 : List DObj} {p : ι → Prop} {o1 : ι → List DObj} {d0 : ι → DV} {Q : DV → List DObj → Prop} {t : Tok Q} (es : List Nat) (h : DCall P G f args0 objs0 (fun d o => ∃ i, p i ∧ d = d0 i ∧ o = o1 i))
    (ha : args0.map (rnV (emb es objs.length)) = args) (hl : es.length = objs0.length) (hnd : es.Nodup) (hes : ∀ x ∈ es, x < objs.length)
    (hobj : ∀ i d, objs0[i]? = some d → objs[emb es objs.length i]? = some (rnO (emb es objs.length) d)) (hq : ∀ i, p i → Q (rnV (emb es objs.length) (d0 i)) (mergeO es objs (o1 i))) : CallE P G f args objs Q t := by
  subst ha
  refine (DCall.embed es h hl hnd hes hobj).mono fun d o ⟨d', o', ⟨i, hp, h1, h2⟩, _, h3, h4⟩ => ?_
  subst h1; subst h2; subst h3; subst h4
  exact hq i hp
end
end Go.Ab
namespace Go.Ab
open Go
@[simp] theorem rn_ims (e : Nat → Nat) (l : List (List IC)) : (ims l).map (rnL e) = ims l := by
  simp only [ims, List.map_map]
  exact List.map_congr_left fun x _ => by simp [rnL_im]
@[simp] theorem emb_nil (n o : Nat) : emb [] n o = n + o := by simp [emb]
attribute [simp] rnV rnC rnL rnVL rnO putO
theorem QCall.thaw {P : Program} {G : Nat → Option (List IC)} {f : FuncId} {args args0 : List DV} {d0 : DV} {objs : List DObj} {K : DV → Prop} {t : Tok K} (h : ∀ objs, DCall P G f args0 objs (fun d o => d = d0 ∧ o = objs)) (ha : args0 = args.map (fzV 0 objs)) (hd : FlV d0) (hk : K d0) : QCall P G f args objs K t :=
  ⟨d0, DCall.thaw h ha hd, hk⟩
end Go.Ab
