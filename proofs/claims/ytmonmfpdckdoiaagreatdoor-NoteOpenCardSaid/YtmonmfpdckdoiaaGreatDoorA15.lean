/- Part 15 of the proof whose last text closes the card: laws and walks that hold without conditions beyond those that each theorem names. -/
import Derived.Test.YtmonmfpdckdoiaaGreatDoorA08
import Derived.Test.YtmonmfpdckdoiaaGreatDoorA12
import Derived.Test.YtmonmfpdckdoiaaGreatDoorA14
set_option linter.all false
set_option linter.deprecated false
namespace Go.Ab
open Go
def frcB (signed without : List Int) (m : Int) (x : Note) : Bool := (decide (x.signed = 2) || decide (x.number ∈ signed)) && !decide (x.number ∈ without) && (decide (x.frm ≤ m) && decide (m ≤ x.to))
def frcO (n : Int) : List Note → List Bool → Bool
  | y :: l, b :: o => !(b && decide (y.cancels = n)) && frcO n l o
  | _, _ => true
def frcL (signed without : List Int) (m : Int) : List Note → List Bool
  | [] => []
  | x :: r => (frcB signed without m x && frcO x.number r (frcL signed without m r)) :: frcL signed without m r
theorem frcL_len (signed without : List Int) (m : Int) : ∀ l, (frcL signed without m l).length = l.length
  | [] => rfl
  | x :: r => by simp [frcL, frcL_len signed without m r]
@[simp] theorem ims_setB (L : List Bool) (k : Nat) (v : Bool) : (ims (L.map encB)).set k [DC.im (.raw (.bool v))] = ims ((L.set k v).map encB) := by
  simp only [ims, List.map_set, encB, rB, List.map_cons, List.map_nil]
@[simp] theorem ims_getB (L : List Bool) (k : Nat) (h : k < (ims (L.map encB)).length) : (ims (L.map encB))[k] = [DC.im (.raw (.bool (L[k]'(by simpa [ims_length] using h))))] := by
  simp [ims]
theorem frcL_drop (signed without : List Int) (m : Int) : ∀ (l : List Note) (k : Nat), (frcL signed without m l).drop k = frcL signed without m (l.drop k)
  | _, 0 => rfl
  | [], _ + 1 => rfl
  | x :: r, k + 1 => by simp [frcL, frcL_drop signed without m r k]
end Go.Ab
namespace Go.Proofs
open Go Go.Ab
set_option linter.unusedSimpArgs false
variable {G : Nat → Option (List IC)}
set_option maxHeartbeats 1000000 in
theorem force3_c (n : Notes) (signed without : List Int) (m : Int) (hl : n.notes.length < 1000) (hsi : signed.length < 1000) (hwo : without.length < 1000) (objs : List DObj) : DCall Tryz.prog G 56 [notesv n, isv signed, isv without, iv m] objs (fun rr objs' => rr = bsv (frcL signed without m n.notes) ∧ objs' = objs) := by
  refine DCall.frame ?_ (by simp) (by simp) objs
  refine DCall_intro Tryz.func56 rfl Tryz.ntmps56 (by simp) rfl ?_
  try simp only [notesv, isv, isv, iv]
  have hw0 : IntKind.i64.wrap ((n.notes.length : Int) - 1) = (n.notes.length : Int) - 1 := i64w (by omega) (by omega)
  have hs : True := trivial
  repeat' first | (with_reducible first | refine q01 ?_ | refine q11 ?_ | refine q12 ?_ | refine And.intro (by omega) ?_) | (with_reducible refine DT_regionE [0, 1, 2, 3, 4, 8, 9, 10, 11, 12, 13, 23, 61] ?_; simp -dsimp [hw0, hs])
  all_goals try simp -dsimp [hw0, hs]
  all_goals try clear hs
  refine DT_loop (ι := { i : Nat // i ≤ n.notes.length }) (fun p => ⟨88, [(1, isv signed), (2, isv without), (3, iv m), (4, .one (.ptr 0 0)), (8, .one (.vec 1 0 0 0)), (9, .one (.vec 2 0 0 n.notes.length)), (10, iv ((p.1 : Int) - 1))], [.row ((encNotes n).map .im), .vec 1 [] 0 true, .vec 1 (ims ((List.replicate p.1 false ++ frcL signed without m (n.notes.drop p.1)).map encB)) 0 false]⟩) (fun p => p.1) ⟨n.notes.length, Nat.le_refl _⟩ (Weak.of_keep [1,2,3,4,8,9,10] (by simp [frcL])) ?_
  rintro ⟨i, hi⟩
  simp only [iv, isv]
  cases i with
  | zero =>
    have hlen := frcL_len signed without m n.notes
    have htk : (ims ((frcL signed without m n.notes).map encB)).take n.notes.length = ims ((frcL signed without m n.notes).map encB) := List.take_of_length_le (by simp [ims_length, hlen])
    have hs : True := trivial
    repeat' first | (with_reducible first | refine q01 ?_ | refine q03 ?_ | refine q06 ?_ | refine q11 ?_ | refine q16 ?_ | refine q17 ?_) | (with_reducible refine At.fn_ret (by simp -dsimp [hlen, htk, hs]; exact rfl) ?_) | (with_reducible refine DT_regionE [0, 1, 2, 3, 4, 8, 9, 10, 11, 12, 13, 23, 61] ?_; simp -dsimp [hlen, htk, hs]) | (refine DT_cond rfl (fun h => ?_) (fun h => ?_) <;> (try simp only [nrm] at h) <;> (try exact Bool.noConfusion h))
    all_goals try simp -dsimp [hlen, htk, hs]
    all_goals try clear hs
  | succ j =>
    have hj : j < n.notes.length := hi
    have hwj : IntKind.i64.wrap ((j : Int) - 1) = (j : Int) - 1 := i64w (by omega) (by omega)
    generalize hx : n.notes[j] = x
    have c1 := has3_c (G := G) signed x.number (by omega)
    have c2 := has3_c (G := G) without x.number (by omega)
    have c3 := within3_c (G := G) m x.frm x.to
    have hwk : IntKind.i64.wrap ((j : Int) + 1) = ((j + 1 : Nat) : Int) := i64w (by omega) (by omega)
    obtain ⟨O, hO⟩ : ∃ O, O = List.replicate (j + 1) false ++ frcL signed without m (n.notes.drop (j + 1)) := ⟨_, rfl⟩
    have hOl : O.length = n.notes.length := by rw [hO]; simp [frcL_len]; omega
    have hOi : ims (List.replicate (j + 1) [IC.raw (.bool false)]) ++ ims ((frcL signed without m (n.notes.drop (j + 1))).map encB) = ims (O.map encB) := by rw [hO]; simp
    have hOk : ∀ (k : Nat) (h1 : j + 1 ≤ k) (h2 : k < n.notes.length), frcL signed without m (n.notes.drop k) = O[k] :: frcL signed without m (n.notes.drop (k + 1)) := by
      have hOd : ∀ q, j + 1 ≤ q → O.drop q = frcL signed without m (n.notes.drop q) := fun q hq => by
        obtain ⟨r, rfl⟩ := Nat.exists_eq_add_of_le hq
        rw [hO, ← List.drop_drop, List.drop_left' (by simp), frcL_drop, List.drop_drop]
      intro k h1 h2
      rw [← hOd k h1, ← hOd (k + 1) (by omega)]
      exact List.drop_eq_getElem_cons (by omega)
    have hs : True := trivial
    repeat' first | (with_reducible first | refine q01 ?_ | refine q11 ?_ | refine q12 ?_ | refine q14 ?_) | (refine CallE.pure (c1) ?_; try simp -dsimp [hx, hj, hwj, hwk, hs]) | (refine CallE.pure (c2) ?_; try simp -dsimp [hx, hj, hwj, hwk, hs]) | (refine CallE.pure (c3) ?_; try simp -dsimp [hx, hj, hwj, hwk, hs]) | (with_reducible refine DT_regionE [0, 1, 2, 3, 4, 8, 9, 10, 11, 12, 13, 23, 61] ?_; simp -dsimp [hx, hj, hwj, hwk, hs]) | (refine DT_cond rfl (fun h => ?_) (fun h => ?_) <;> (try simp only [nrm] at h) <;> (try exact Bool.noConfusion h)) | (with_reducible refine GStop_split ?_ ?_ <;> intro h <;> have h0 := h <;> (try simp only [nrm] at h) <;> (try exact Bool.noConfusion h) <;> have h2 := h <;> (try simp at h2) <;> (replace hs := And.intro h0 (And.intro h (And.intro h2 hs))) <;> simp -dsimp [h0, h, h2, hx, hj, hwj, hwk, hs])
    all_goals try simp -dsimp [hx, hj, hwj, hwk, hs]
    all_goals try clear hs
    all_goals simp only [hOi]
    all_goals refine DT_loop (ι := { p : Nat × Bool // j + 1 ≤ p.1 ∧ p.1 ≤ n.notes.length ∧ (frcB signed without m x && frcO x.number (n.notes.drop (j + 1)) (frcL signed without m (n.notes.drop (j + 1)))) = (p.2 && frcO x.number (n.notes.drop p.1) (frcL signed without m (n.notes.drop p.1))) }) (fun p => ⟨88, [(1, isv signed), (2, isv without), (3, iv m), (4, .one (.ptr 0 0)), (8, .one (.vec 1 0 0 0)), (9, .one (.vec 2 0 0 n.notes.length)), (10, iv (j : Int)), (11, .one (.ptr 3 0)), (12, bv p.1.2), (13, iv (p.1.1 : Int))], [.row ((encNotes n).map .im), .vec 1 [] 0 true, .vec 1 (ims (O.map encB)) 0 false, .row ((encNote x).map .im)]⟩) (fun p => n.notes.length - p.1.1) ⟨(j + 1, frcB signed without m x), by simp; omega⟩ (Weak.of_keep [1,2,3,4,8,9,10,11,12,13] (by clear hO hOi hOk hOl hx hwk hwj hw0 c1 c2 c3; simp [frcB, *])) ?_
    all_goals
      rintro ⟨⟨k, v⟩, hk1, hk2, hv⟩
      simp only at hk1 hk2 hv
      simp only [iv, isv, bv]
      by_cases hlk : k < n.notes.length
      · have hwk2 : IntKind.i64.wrap ((k : Int) + 1) = ((k + 1 : Nat) : Int) := i64w (by omega) (by omega)
        have hko : k < O.length := by omega
        rw [hOk k hk1 hlk, List.drop_eq_getElem_cons hlk, frcO] at hv
        clear hOk hOi hO
        generalize hy : n.notes[k] = y at *
        generalize hz : O[k] = z at *
        cases v <;> cases z
        all_goals
          have hs : True := trivial
          repeat' first | (with_reducible first | refine q01 ?_ | refine q04 ?_ | refine q11 ?_ | refine q12 ?_ | refine q14 ?_) | (refine DT_regionM (id := 10) (nt := 88) 20 [0, 1, 2, 3, 4, 8, 9, 10, 11, 12, 13, 23, 61] mixed rfl (by kernel_rfl) ?_; simp -dsimp [hy, hz, hlk, hko, hwk2, hOl, hs]) | (with_reducible refine DT_regionE [0, 1, 2, 3, 4, 8, 9, 10, 11, 12, 13, 23, 61] ?_; simp -dsimp [hy, hz, hlk, hko, hwk2, hOl, hs]) | (refine DT_cond rfl (fun h => ?_) (fun h => ?_) <;> (try simp only [nrm] at h) <;> (try exact Bool.noConfusion h))
          all_goals try simp -dsimp [hy, hz, hlk, hko, hwk2, hOl, hs]
          all_goals try clear hs
        all_goals exact At.round ⟨(k + 1, _), by simp only; omega, by simp only; omega, hv.trans (Bool.and_assoc ..).symm⟩ (by simp only; omega) (Weak.of_keep [1,2,3,4,8,9,10,11,12,13] (by simp; try (cases decide (y.cancels = x.number) <;> rfl)))
      · have e : k = n.notes.length := by omega
        have hend : (List.replicate j false ++ frcL signed without m (n.notes.drop j)) = O.set j v := by
          have hnil : frcO x.number (n.notes.drop k) (frcL signed without m (n.notes.drop k)) = true := by
            rw [List.drop_eq_nil_of_le (by omega)]; rfl
          rw [hnil, Bool.and_true] at hv
          rw [List.drop_eq_getElem_cons hj, hx, frcL, hv, hO, List.replicate_succ', List.append_assoc]
          simp
        have hend2 : ims ((O.map encB).set j [IC.raw (.bool v)]) = ims (List.replicate j [IC.raw (.bool false)]) ++ ims ((frcL signed without m (n.notes.drop j)).map encB) := by
          rw [show [IC.raw (.bool v)] = encB v from rfl, ← List.map_set, ← hend, List.map_append, ims_append]
          simp
        have hjO : j < O.length := by omega
        clear hOk hOi hO
        have hs : True := trivial
        repeat' first | (with_reducible first | refine q01 ?_ | refine q03 ?_ | refine q04 ?_ | refine q06 ?_ | refine q11 ?_ | refine q16 ?_) | (with_reducible refine DT_regionE [0, 1, 2, 3, 4, 8, 9, 10, 11, 12, 13, 23, 61] ?_; simp -dsimp [hlk, hj, hOl, hjO, hs]) | (refine DT_cond rfl (fun h => ?_) (fun h => ?_) <;> (try simp only [nrm] at h) <;> (try exact Bool.noConfusion h))
        all_goals try simp -dsimp [hlk, hj, hOl, hjO, hs]
        all_goals try clear hs
        all_goals exact At.round ⟨j, by omega⟩ (by simp) (Weak.of_drop [1,2,3,4,8,9,10] 3 (by simp) (by simp) (by simp [hend2, hwj]))
end Go.Proofs
namespace Go.Proofs
open Go Go.Ab
/-! ### The open notes in order -/
def numAt (l : List Note) (i : Nat) : Int := ((l[i]?).map (·.number)).getD 0
def opAt (l : List Note) (i : Nat) : Bool := match l[i]? with | some x => decide (x.signed = 1) | none => false
/-- The open ones of the first k, in the order of their Numbers. -/
structure OpenTo (l : List Note) (k : Nat) (S : List Nat) : Prop where
  perm : S.Perm ((List.range k).filter (opAt l))
  srt : S.Pairwise fun a b => numAt l a ≤ numAt l b
theorem OpenTo.nil (l : List Note) : OpenTo l 0 [] := ⟨by simp, by simp⟩
theorem OpenTo.lt {l : List Note} {k : Nat} {S : List Nat} (h : OpenTo l k S) : ∀ i ∈ S, i < k ∧ opAt l i = true := fun i hi => by
  have := h.perm.mem_iff.1 hi
  simpa using this
theorem OpenTo.len {l : List Note} {k : Nat} {S : List Nat} (h : OpenTo l k S) : S.length ≤ k := by
  rw [h.perm.length_eq]
  have := List.length_filter_le (opAt l) (List.range k)
  simpa using this
theorem OpenTo.skip {l : List Note} {k : Nat} {S : List Nat} (h : OpenTo l k S) (hk : opAt l k = false) : OpenTo l (k + 1) S :=
  ⟨by rw [List.range_succ, List.filter_append]; simpa [hk] using h.perm, h.srt⟩
theorem OpenTo.put {l : List Note} {k : Nat} {S : List Nat} (h : OpenTo l k S) (hk : opAt l k = true) (q : Nat)
    (h1 : ∀ i ∈ S.take q, numAt l i ≤ numAt l k) (h2 : ∀ i ∈ S.drop q, numAt l k ≤ numAt l i) : OpenTo l (k + 1) (S.take q ++ k :: S.drop q) := by
  constructor
  · rw [List.range_succ, List.filter_append]
    simp only [List.filter_cons, hk, if_true, List.filter_nil]
    refine List.perm_middle.trans ?_
    rw [List.take_append_drop]
    exact (List.perm_append_singleton k _).symm.trans (List.Perm.append_right _ h.perm)
  · have h3 := h.srt
    rw [← List.take_append_drop q S, List.pairwise_append] at h3
    obtain ⟨p1, p2, p3⟩ := h3
    rw [List.pairwise_append, List.pairwise_cons]
    refine ⟨p1, ⟨h2, p2⟩, fun a ha b hb => ?_⟩
    rcases List.mem_cons.1 hb with rfl | hb
    · exact h1 a ha
    · exact p3 a ha b hb
theorem OpenTo.first {l : List Note} {k : Nat} {S : List Nat} (h : OpenTo l k S) {q : Nat} (hq : q < S.length) {v : Int} (hv : numAt l S[q] ≤ v) : ∀ i ∈ S.take (q + 1), numAt l i ≤ v := fun i hi => by
  obtain ⟨j, hj, e⟩ := List.mem_take_iff_getElem.1 hi
  have h3 := List.pairwise_iff_getElem.1 h.srt
  by_cases he : j = q
  · subst he; rw [← e]; exact hv
  · have := h3 j q (by omega) hq (by omega)
    rw [e] at this; omega
theorem filter_range (l : List Note) : ∀ k, k ≤ l.length → ((List.range k).filter (opAt l)).map (numAt l) = openL (l.take k)
  | 0, _ => by simp [openL]
  | k + 1, h => by
    have hk : k < l.length := by omega
    rw [List.range_succ, List.filter_append, List.map_append, filter_range l k (by omega), openL_snoc l k hk]
    congr 1
    have e : l[k]? = some l[k] := by simp [hk]
    by_cases h1 : l[k].signed = 1
    · simp [opAt, e, h1, numAt]
    · simp [opAt, e, h1]
theorem OpenTo.nums {l : List Note} {S : List Nat} (h : OpenTo l l.length S) : S.map (numAt l) = isort (openL l) := by
  have h1 : (S.map (numAt l)).Perm (isort (openL l)) := by
    refine (h.perm.map _).trans ?_
    rw [filter_range l _ (Nat.le_refl _), List.take_length]
    exact (List.mergeSort_perm _ _).symm
  refine h1.eq_of_pairwise (le := (· ≤ ·)) (fun a b _ _ h2 h3 => by omega) (by rw [List.pairwise_map]; exact h.srt) ?_
  have := List.pairwise_mergeSort (le := fun x y : Int => decide (x ≤ y)) (fun a b c h1 h2 => by simp at *; omega) (fun a b => by simp; omega) (openL l)
  exact this.imp fun h => by simpa using h
theorem isort_mem {l : List Int} {n : Int} : n ∈ isort l ↔ n ∈ l := (List.mergeSort_perm l _).mem_iff
theorem isort_nodup {l : List Int} (h : l.Nodup) : (isort l).Nodup := (List.mergeSort_perm l _).nodup_iff.2 h
theorem isort_sorted (l : List Int) : (isort l).Pairwise (· ≤ ·) := by
  have := List.pairwise_mergeSort (le := fun x y : Int => decide (x ≤ y)) (fun a b c h1 h2 => by simp at *; omega) (fun a b => by simp; omega) l
  exact this.imp fun h => by simpa using h
theorem truthB_mem {o o' s : List Int} (h : ∀ n, n ∈ o ↔ n ∈ o') : truthB o s = truthB o' s := by
  have e : truthP o s ↔ truthP o' s := by simp only [truthP, h]
  rw [Bool.eq_iff_iff, truthB_iff, truthB_iff]; exact e
/-! ### What is in force -/
theorem frcL_len' (signed without : List Int) (m : Int) : ∀ l, (frcL signed without m l).length = l.length
  | [] => rfl
  | x :: r => by simp [frcL, frcL_len' signed without m r]
theorem frcL_drop' (signed without : List Int) (m : Int) : ∀ (l : List Note) (k : Nat), (frcL signed without m l).drop k = frcL signed without m (l.drop k)
  | _, 0 => rfl
  | [], _ + 1 => rfl
  | x :: r, k + 1 => by simp [frcL, frcL_drop' signed without m r k]
theorem frcL_at {s w : List Int} {m : Int} {l : List Note} {k : Nat} (hk : k < l.length) (hk' : k < (frcL s w m l).length) : (frcL s w m l)[k] = (frcB s w m l[k] && frcO l[k].number (l.drop (k + 1)) ((frcL s w m l).drop (k + 1))) := by
  have h1 := frcL_drop' s w m l k
  rw [List.drop_eq_getElem_cons hk, List.drop_eq_getElem_cons hk', frcL] at h1
  rw [frcL_drop']
  exact (List.cons.inj h1).1
theorem frcO_step {n : Int} {l : List Note} {F : List Bool} {k : Nat} (hk : k < l.length) (hf : k < F.length) : frcO n (l.drop k) (F.drop k) = (!(F[k] && decide (l[k].cancels = n)) && frcO n (l.drop (k + 1)) (F.drop (k + 1))) := by
  rw [List.drop_eq_getElem_cons hk, List.drop_eq_getElem_cons hf, frcO]
theorem frcO_end {n : Int} {l : List Note} {F : List Bool} {k : Nat} (hk : l.length ≤ k) : frcO n (l.drop k) (F.drop k) = true := by
  rw [List.drop_eq_nil_of_le hk]; rfl
/-- The numbers of those among the first k that are in force. -/
def inT (l : List Note) (F : List Bool) (k : Nat) : List Int := (((l.zip F).take k).filter (·.2)).map (·.1.number)
theorem inT_zero (l : List Note) (F : List Bool) : inT l F 0 = [] := by simp [inT]
theorem inT_succ {l : List Note} {F : List Bool} {k : Nat} (hk : k < l.length) (hf : k < F.length) : inT l F (k + 1) = inT l F k ++ (if F[k] = true then [l[k].number] else []) := by
  unfold inT
  rw [List.take_succ_eq_append_getElem (by simp; omega), List.filter_append, List.map_append]
  congr 1
  rw [List.getElem_zip]
  by_cases e : F[k] = true <;> simp [e]
theorem inT_len (l : List Note) (F : List Bool) (k : Nat) : (inT l F k).length ≤ k := by
  unfold inT
  rw [List.length_map]
  refine Nat.le_trans (List.length_filter_le _ _) ?_
  rw [List.length_take]; omega
/-- The note by which a drawing has its letter. -/
def note1 : Note := ⟨0, 0, 0, 0, 1, 0, 0, 0, false, 0⟩
def byN (l : List Note) (b : List Bool) (d : Int) : Nat → Note
  | 0 => note1
  | k + 1 => match l[k]? with
    | some x => if b[k]? = some true ∧ x.drawing = d then x else byN l b d k
    | none => note1
theorem byN_K (l : List Note) (b : List Bool) (d : Int) : ∀ k, k ≤ l.length → byN l b d k = if byK l b d k < 0 then note1 else match l[(byK l b d k).toNat]? with | some x => x | none => note1
  | 0, _ => by simp [byN, byK]
  | k + 1, h => by
    have hk : k < l.length := by omega
    have e : l[k]? = some l[k] := by simp [hk]
    simp only [byN, byK, e, Option.map_some, Option.some.injEq]
    split
    · rw [if_neg (by omega)]; simp [e]
    · exact byN_K l b d k (by omega)
end Go.Proofs
namespace Go.Proofs
open Go Go.Ab
set_option linter.unusedSimpArgs false
variable {G : Nat → Option (List IC)}
theorem rnT_A {n : Notes} {i : Nat} {x : Note} (h : ¬ (1 ≤ x.number ∧ x.number ≤ 9999 ∧ 0 ≤ x.day ∧ x.day ≤ 14610 ∧ x.signed ≤ 2 ∧ 1 ≤ x.frm ∧ x.frm ≤ x.to ∧ x.to ≤ 999 ∧ x.ways ≤ 3)) : rnT n i x = false := by
  have : rnA x = false := by
    rw [← Bool.not_eq_true]; simp only [rnA, Bool.and_eq_true, decide_eq_true_eq]; omega
  simp [rnT, this]
theorem rnT_B {n : Notes} {i : Nat} {x : Note} {f : Bool} (hf : (findI n.reg x.drawing x.letter).isSome = f) (h : ¬ ((x.drawing = 0 ∧ x.letter = 0 → x.cancels ≠ 0) ∧ (¬ (x.drawing = 0 ∧ x.letter = 0) → f = true))) : rnT n i x = false := by
  have : rnB n.reg x = false := by
    rw [← Bool.not_eq_true]; unfold rnB; rw [hf]
    split <;> simp_all
  simp [rnT, this]
theorem rnT_D {n : Notes} {i : Nat} {x : Note} (h : x.letter < 2 ∧ (x.useUp = true ∨ 0 < x.ways)) : rnT n i x = false := by
  have : rnD x = false := by
    obtain ⟨h1, h2⟩ := h
    rw [rnD, Bool.not_eq_false']
    rcases h2 with h2 | h2 <;> simp [h1, h2]
  simp [rnT, this]
theorem rnT_E {n : Notes} {i : Nat} {x : Note} (h : nk7 n.notes i x = false) : rnT n i x = false := by simp [rnT, h]
theorem rnT_F {n : Notes} {i : Nat} {x : Note} {f : Bool} (hf : (findI n.reg x.drawing x.letter).isSome = f) (h : 1 ≤ x.number ∧ x.number ≤ 9999 ∧ 0 ≤ x.day ∧ x.day ≤ 14610 ∧ x.signed ≤ 2 ∧ 1 ≤ x.frm ∧ x.frm ≤ x.to ∧ x.to ≤ 999 ∧ x.ways ≤ 3)
    (hb : (x.drawing = 0 ∧ x.letter = 0 → x.cancels ≠ 0) ∧ (¬ (x.drawing = 0 ∧ x.letter = 0) → f = true)) (hd : ¬ (x.letter < 2 ∧ (x.useUp = true ∨ 0 < x.ways))) (he : nk7 n.notes i x = true) : rnT n i x = (nk6 n.notes i x && nk8 n.notes i x) := by
  have h1 : rnA x = true := by simp only [rnA, Bool.and_eq_true, decide_eq_true_eq]; omega
  have h2 : rnB n.reg x = true := by
    unfold rnB; rw [hf]
    split <;> simp_all
  have h3 : rnD x = true := by
    rw [rnD, Bool.not_eq_true', ← Bool.not_eq_true]; simpa using hd
  simp [rnT, h1, h2, h3, he]
def bfK (l : List Note) (x : Note) (k : Nat) : Bool := decide (x.cancels = 0) || (l.take k).any fun y => decide (y.number = x.cancels)
theorem bfK_succ {l : List Note} {x : Note} {k : Nat} (hk : k < l.length) : bfK l x (k + 1) = (bfK l x k || decide (l[k].number = x.cancels)) := by
  unfold bfK
  rw [List.take_succ_eq_append_getElem hk, List.any_append]
  simp [Bool.or_assoc]
def nosame (l : List Note) (x : Note) (k : Nat) : Prop := ((l.take k).any fun y => decide (y.number = x.number)) = false
theorem nosame_succ {l : List Note} {x : Note} {k : Nat} (hk : k < l.length) (h : nosame l x k) (h2 : ¬ l[k].number = x.number) : nosame l x (k + 1) := by
  unfold nosame at *
  rw [List.take_succ_eq_append_getElem hk, List.any_append, h]
  simp [h2]
theorem nk7_bad {l : List Note} {x : Note} {k i : Nat} (hki : k < i) (hk : k < l.length) (h2 : l[k].number = x.number) : nk7 l i x = false := by
  unfold nk7
  rw [Bool.not_eq_false', List.any_eq_true]
  exact ⟨l[k], List.mem_take_iff_getElem.2 ⟨k, by omega, rfl⟩, by simp [h2]⟩
set_option maxHeartbeats 2000000 in
theorem note3_c (n : Notes) (i : Nat) (x : Note) (hx : n.notes[i]? = some x) (hl : n.notes.length < 1000) (hr : n.reg.length < 1000) (objs : List DObj) : DCall Tryz.prog G 141 [notesv n, iv (i : Int)] objs (fun rr objs' => rr = bv (rnT n i x) ∧ objs' = objs) := by
  refine DCall.frame ?_ (by simp) (by simp) objs
  refine DCall_intro Tryz.func141 rfl Tryz.ntmps141 (by simp) rfl ?_
  try simp only [notesv, iv]
  have hi : i < n.notes.length := lt_of_getElem? hx
  have hxe : n.notes[i] = x := (List.getElem?_eq_some_iff.1 hx).2
  have c1 := within3_c (G := G) x.number 1 9999
  have c2 := within3_c (G := G) x.day 0 14610
  have c3 := within3_c (G := G) x.frm 1 x.to
  have c4 := find_c (G := G) n.reg x.drawing x.letter (by omega)
  simp only [refv] at c4
  generalize hf : (findI n.reg x.drawing x.letter).isSome = f at *
  have c5 : ∀ (h : x.drawing = 0) objs, DCall Tryz.prog G 143 [regv n.reg, refv 0 x.letter] objs (fun r objs' => r = .tup [issv ((findI n.reg x.drawing x.letter).getD zIssue), bv f] ∧ objs' = objs) := fun h => by
    rw [h] at c4 ⊢; exact c4
  simp only [refv] at c5
  have hs : True := trivial
  repeat' first | (with_reducible first | refine q01 ?_ | refine q02 ?_ | refine q11 ?_ | refine q12 ?_ | refine q14 ?_ | refine q17 ?_) | (with_reducible refine At.fn_ret (by simp -dsimp [hxe, hi, hs]; exact rfl) ?_) | (refine CallE.pure (c1) ?_; try simp -dsimp [hxe, hi, hs]) | (refine CallE.pure (c2) ?_; try simp -dsimp [hxe, hi, hs]) | (refine CallE.pure (c3) ?_; try simp -dsimp [hxe, hi, hs]) | (refine CallE.pure (c4) ?_; try simp -dsimp [hxe, hi, hs]) | (refine CallE.pure (c5 ‹_›) ?_; try simp -dsimp [hxe, hi, hs]) | (with_reducible refine DT_regionE [0, 1, 2, 4, 5, 7, 8, 9, 10, 11, 49, 57, 60, 73, 85, 91, 103, 113] ?_; simp -dsimp [hxe, hi, hs]) | (refine DT_cond rfl (fun h => ?_) (fun h => ?_) <;> (try simp only [nrm] at h) <;> (try exact Bool.noConfusion h)) | (with_reducible refine GStop_split ?_ ?_ <;> intro h <;> have h0 := h <;> (try simp only [nrm] at h) <;> (try exact Bool.noConfusion h) <;> have h2 := h <;> (try simp at h2) <;> (replace hs := And.intro h0 (And.intro h (And.intro h2 hs))) <;> simp -dsimp [h0, h, h2, hxe, hi, hs])
  all_goals try simp -dsimp [hxe, hi, hs]
  all_goals try clear hs
  all_goals clear c1 c2 c3 c4 c5 hx
  all_goals try (refine rnT_A ?_; omega)
  all_goals try (refine rnT_B hf ?_; clear hf hxe; simp_all; done)
  all_goals try (refine rnT_D ?_; clear hf hxe; simp_all; done)
  all_goals
    have hF : nk7 n.notes i x = true → rnT n i x = (nk6 n.notes i x && nk8 n.notes i x) := by
      refine rnT_F hf (by omega) ?_ ?_
      · clear hxe hf; simp_all
      · clear hxe hf; simp_all; try omega
  all_goals refine DT_loop (ι := { k : Nat // k ≤ i ∧ nosame n.notes x k }) (fun p => ⟨143, [(1, iv (i : Int)), (2, .one (.ptr 0 0)), (5, .one (.ptr 1 0)), (8, bv (bfK n.notes x p.1)), (9, iv (p.1 : Int))], [.row ((encNotes n).map .im), .row ((encNote x).map .im)]⟩) (fun p => i - p.1) ⟨0, by simp [nosame]⟩ (Weak.of_drop [1,2,5,8,9] 2 (by simp) (by simp) (by clear hF hf hxe; simp [bfK, *])) ?_
  all_goals
    rintro ⟨k, hk, hno⟩
    simp only [iv, bv]
    by_cases hlt : k < i
    · have hlk : k < n.notes.length := by omega
      have hw : IntKind.i64.wrap ((k : Int) + 1) = ((k + 1 : Nat) : Int) := i64w (by omega) (by omega)
      have hsu := bfK_succ (x := x) hlk
      have hn2 := nosame_succ hlk hno
      have hbad := nk7_bad (x := x) hlt hlk
      generalize hy : n.notes[k] = y at *
      generalize hb : bfK n.notes x k = b at *
      cases b
      all_goals
        have hs : True := trivial
        repeat' first | (with_reducible first | refine q01 ?_ | refine q02 ?_ | refine q04 ?_ | refine q05 ?_ | refine q11 ?_ | refine q12 ?_ | refine q14 ?_ | refine q17 ?_) | (with_reducible refine At.fn_ret (by simp -dsimp [hxe, hi, hy, hlt, hlk, hw, hs]; exact rfl) ?_) | (with_reducible refine DT_regionE [0, 1, 2, 4, 5, 7, 8, 9, 10, 11, 49, 57, 60, 73, 85, 91, 103, 113] ?_; simp -dsimp [hxe, hi, hy, hlt, hlk, hw, hs]) | (refine DT_cond rfl (fun h => ?_) (fun h => ?_) <;> (try simp only [nrm] at h) <;> (try exact Bool.noConfusion h))
        all_goals try simp -dsimp [hxe, hi, hy, hlt, hlk, hw, hs]
        all_goals try clear hs
      all_goals try (rw [show rnT n i x = false from rnT_E (hbad (by assumption))]; done)
      all_goals exact At.round ⟨k + 1, by omega, hn2 (by assumption)⟩ (by simp; omega) (Weak.of_drop [1,2,5,8,9] 2 (by simp) (by simp) (by simp [hsu]))
    · have e : k = i := by omega
      subst e
      have hT := hF (by unfold nk7; rw [show ((n.notes.take k).any fun y => decide (y.number = x.number)) = false from hno]; rfl)
      rw [show nk6 n.notes k x = bfK n.notes x k from rfl] at hT
      by_cases h00 : k = 0
      · have hk0 : (k : Int) = 0 := by omega
        have hs : True := trivial
        repeat' first | (with_reducible first | refine q01 ?_ | refine q02 ?_ | refine q03 ?_ | refine q06 ?_ | refine q11 ?_ | refine q16 ?_ | refine q17 ?_) | (with_reducible refine At.fn_ret (by simp -dsimp [hlt, hk0, hs]; exact rfl) ?_) | (with_reducible refine DT_regionE [0, 1, 2, 4, 5, 7, 8, 9, 10, 11, 49, 57, 60, 73, 85, 91, 103, 113] ?_; simp -dsimp [hlt, hk0, hs]) | (refine DT_cond rfl (fun h => ?_) (fun h => ?_) <;> (try simp only [nrm] at h) <;> (try exact Bool.noConfusion h))
        all_goals try simp -dsimp [hlt, hk0, hs]
        all_goals try clear hs
        rw [hT, nk8, if_pos h00, Bool.and_true]
      · have hk1 : k - 1 < n.notes.length := by omega
        have hk0 : ¬ (k : Int) = 0 := by omega
        have hw : IntKind.i64.wrap ((k : Int) - 1) = ((k - 1 : Nat) : Int) := by rw [i64w (by omega) (by omega)]; omega
        have h8 : nk8 n.notes k x = befN n.notes[k - 1] x := by rw [nk8, if_neg h00, List.getElem?_eq_getElem hk1]
        rw [h8] at hT
        generalize hy : n.notes[k - 1] = y at *
        generalize hb : bfK n.notes x k = b at *
        cases b
        all_goals
          have hs : True := trivial
          repeat' first | (with_reducible first | refine q01 ?_ | refine q03 ?_ | refine q06 ?_ | refine q11 ?_ | refine q14 ?_ | refine q16 ?_ | refine q17 ?_) | (with_reducible refine At.fn_ret (by simp -dsimp [hxe, hi, hy, hk1, hw, hk0, h00, hs]; exact rfl) ?_) | (with_reducible refine DT_regionE [0, 1, 2, 4, 5, 7, 8, 9, 10, 11, 49, 57, 60, 73, 85, 91, 103, 113] ?_; simp -dsimp [hxe, hi, hy, hk1, hw, hk0, h00, hs]) | (refine DT_cond rfl (fun h => ?_) (fun h => ?_) <;> (try simp only [nrm] at h) <;> (try exact Bool.noConfusion h)) | (with_reducible refine GStop_split ?_ ?_ <;> intro h <;> have h0 := h <;> (try simp only [nrm] at h) <;> (try exact Bool.noConfusion h) <;> have h2 := h <;> (try simp at h2) <;> (replace hs := And.intro h0 (And.intro h (And.intro h2 hs))) <;> simp -dsimp [h0, h, h2, hxe, hi, hy, hk1, hw, hk0, h00, hs])
          all_goals try simp -dsimp [hxe, hi, hy, hk1, hw, hk0, h00, hs]
          all_goals try clear hs
        all_goals rw [hT]
        all_goals try (rfl; done)
        all_goals (rw [Bool.true_and, Bool.eq_iff_iff]; simp only [befN, Bool.or_eq_true, Bool.and_eq_true, decide_eq_true_eq, iff_true, iff_false, Bool.false_eq_true]; omega)
end Go.Proofs
namespace Go.Proofs
open Go Go.Ab
set_option linter.unusedSimpArgs false
variable {G : Nat → Option (List IC)}
def NSm (n : Notes) : Prop := SmallR n.reg ∧ n.notes.length ≤ 16 ∧ ∀ x ∈ n.notes, 0 ≤ x.ways ∧ x.ways ≤ 255 ∧ 0 ≤ x.signed ∧ x.signed ≤ 255
theorem openL_succ_len {l : List Note} {k : Nat} (h : k < l.length) : ((openL (l.take (k + 1))).length : Int) = (openL (l.take k)).length + (if l[k].signed = 1 then 1 else 0) := by
  rw [openL_snoc l k h]
  split <;> simp
set_option maxHeartbeats 1000000 in
theorem notes3_c (n : Notes) (hs : NSm n) (h0 : checkR n.reg = 0) (objs : List DObj) : DCall Tryz.prog G 108 [notesv n] objs (fun rr objs' => rr = bv (notesB n) ∧ objs' = objs) := by
  refine DCall.frame ?_ (by simp) (by simp) objs
  refine DCall_intro Tryz.func108 rfl Tryz.ntmps108 (by simp) rfl ?_
  try simp only [notesv]
  obtain ⟨hsr, hsn, hsx⟩ := hs
  have hr := hsr.1
  by_cases hl : n.notes.length ≤ 12
  · have hli : ¬ (12 : Int) < n.notes.length := by omega
    have hs : True := trivial
    repeat' first | (with_reducible first | refine q01 ?_ | refine q11 ?_ | refine q12 ?_ | refine q14 ?_) | (with_reducible refine DT_regionE [0, 1, 2, 3, 4, 8, 13, 19, 26] ?_; simp -dsimp [hli, hs]) | (refine DT_cond rfl (fun h => ?_) (fun h => ?_) <;> (try simp only [nrm] at h) <;> (try exact Bool.noConfusion h))
    all_goals try simp -dsimp [hli, hs]
    all_goals try clear hs
    refine DT_loop (ι := { k : Nat // k ≤ n.notes.length ∧ ∀ (j : Nat) (x : Note), j < k → n.notes[j]? = some x → nkA n j x = true }) (fun p => ⟨31, [(1, .one (.ptr 0 0)), (3, iv ((openL (n.notes.take p.1)).length : Int)), (4, iv (p.1 : Int))], [.row ((encNotes n).map .im)]⟩) (fun p => n.notes.length - p.1) ⟨0, by simp⟩ (Weak.of_keep [1,3,4] (by simp [openL])) ?_
    rintro ⟨k, hk, hok⟩
    simp only [iv]
    by_cases hlt : k < n.notes.length
    · have hx0 : n.notes[k]? = some n.notes[k] := by simp [hlt]
      have hw : IntKind.i64.wrap ((k : Int) + 1) = ((k + 1 : Nat) : Int) := i64w (by omega) (by omega)
      have hos := openL_succ_len hlt
      have hol := openL_len (n.notes.take k)
      rw [List.length_take] at hol
      have hw2 : IntKind.i64.wrap (((openL (n.notes.take k)).length : Int) + 1) = ((openL (n.notes.take k)).length : Int) + 1 := i64w (by omega) (by omega)
      have hsx' := hsx n.notes[k] (List.getElem_mem hlt)
      generalize hx : n.notes[k] = x at *
      have c1 := note3_c (G := G) n k x hx0 (by omega) (by omega)
      rw [rnT_eq h0 hsx'.1] at c1
      have hbad : nkA n k x = false → notesB n = false := fun h => by
        rw [← Bool.not_eq_true]
        intro hb
        have := (notesB_iff.1 hb).2.1 k x hx0
        rw [h] at this; cases this
      have hstep : nkA n k x = true → ∀ (j : Nat) (z : Note), j < k + 1 → n.notes[j]? = some z → nkA n j z = true := fun h j z hj hz => by
        by_cases e : j = k
        · subst e; rw [hx0] at hz; cases hz; exact h
        · exact hok j z (by omega) hz
      generalize nkA n k x = q at *
      cases q
      · have hs : True := trivial
        repeat' first | (with_reducible first | refine q01 ?_ | refine q02 ?_ | refine q05 ?_ | refine q11 ?_ | refine q12 ?_ | refine q14 ?_ | refine q17 ?_) | (with_reducible refine At.fn_ret (by simp -dsimp [hx, hlt, hw, hs]; exact rfl) ?_) | (refine CallE.pure (c1) ?_; try simp -dsimp [hx, hlt, hw, hs]) | (with_reducible refine DT_regionE [0, 1, 2, 3, 4, 8, 13, 19, 26] ?_; simp -dsimp [hx, hlt, hw, hs]) | (refine DT_cond rfl (fun h => ?_) (fun h => ?_) <;> (try simp only [nrm] at h) <;> (try exact Bool.noConfusion h))
        all_goals try simp -dsimp [hx, hlt, hw, hs]
        all_goals try clear hs
        exact hbad rfl
      · have hs : True := trivial
        repeat' first | (with_reducible first | refine q01 ?_ | refine q04 ?_ | refine q11 ?_ | refine q12 ?_ | refine q14 ?_) | (refine CallE.pure (c1) ?_; try simp -dsimp [hx, hlt, hw, hw2, hs]) | (with_reducible refine DT_regionE [0, 1, 2, 3, 4, 8, 13, 19, 26] ?_; simp -dsimp [hx, hlt, hw, hw2, hs]) | (refine DT_cond rfl (fun h => ?_) (fun h => ?_) <;> (try simp only [nrm] at h) <;> (try exact Bool.noConfusion h))
        all_goals try simp -dsimp [hx, hlt, hw, hw2, hs]
        all_goals try clear hs
        all_goals exact At.round ⟨k + 1, by omega, hstep rfl⟩ (by simp; omega) (Weak.of_keep [1,3,4] (by simp [hos, *]))
    · have e : k = n.notes.length := by omega
      subst e
      rw [List.take_length]
      have hs : True := trivial
      repeat' first | (with_reducible first | refine q01 ?_ | refine q03 ?_ | refine q06 ?_ | refine q11 ?_ | refine q16 ?_ | refine q17 ?_) | (with_reducible refine At.fn_ret (by simp -dsimp [hlt, hs]; exact rfl) ?_) | (with_reducible refine DT_regionE [0, 1, 2, 3, 4, 8, 13, 19, 26] ?_; simp -dsimp [hlt, hs]) | (refine DT_cond rfl (fun h => ?_) (fun h => ?_) <;> (try simp only [nrm] at h) <;> (try exact Bool.noConfusion h))
      all_goals try simp -dsimp [hlt, hs]
      all_goals try clear hs
      rw [Bool.eq_iff_iff, notesB_iff]
      simp only [decide_eq_true_eq]
      constructor
      · intro h
        exact ⟨hl, fun j x hx => hok j x (lt_of_getElem? hx) hx, by omega⟩
      · intro h
        have := h.2.2; omega
  · have hli : (12 : Int) < n.notes.length := by omega
    have hs : True := trivial
    repeat' first | (with_reducible first | refine q01 ?_ | refine q02 ?_ | refine q11 ?_ | refine q17 ?_) | (with_reducible refine At.fn_ret (by simp -dsimp [hli, hs]; exact rfl) ?_) | (with_reducible refine DT_regionE [0, 1, 2, 3, 4, 8, 13, 19, 26] ?_; simp -dsimp [hli, hs]) | (refine DT_cond rfl (fun h => ?_) (fun h => ?_) <;> (try simp only [nrm] at h) <;> (try exact Bool.noConfusion h))
    all_goals try simp -dsimp [hli, hs]
    all_goals try clear hs
    exact Bool.eq_false_iff.2 fun h => hl (notesB_iff.1 h).1
theorem check3_c (n : Notes) (hs : NSm n) (objs : List DObj) : DCall Tryz.prog G 71 [notesv n] objs (fun rr objs' => rr = iv (notesE n) ∧ objs' = objs) := by
  refine DCall.frame ?_ (by simp) (by simp) objs
  refine DCall_intro Tryz.func71 rfl Tryz.ntmps71 (by simp) rfl ?_
  try simp only [notesv]
  have c1 := rcheck_c (G := G) n.reg hs.1
  by_cases h0 : checkR n.reg = 0
  · have c2 := notes3_c (G := G) n hs h0
    have hE : notesE n = if notesB n then 0 else 30 := by unfold notesE; rw [if_neg (by simp [h0])]
    rw [h0] at c1
    generalize notesB n = q at *
    cases q
    · have hs : True := trivial
      repeat' first | (with_reducible first | refine q01 ?_ | refine q02 ?_ | refine q11 ?_ | refine q14 ?_ | refine q17 ?_) | (with_reducible refine At.fn_ret (by simp -dsimp [hs]; exact rfl) ?_) | (refine CallE.pure (c1) ?_; try simp -dsimp [hs]) | (refine CallE.pure (c2) ?_; try simp -dsimp [hs]) | (with_reducible refine DT_regionE [0, 1, 2, 3, 8, 12] ?_; simp -dsimp [hs]) | (refine DT_cond rfl (fun h => ?_) (fun h => ?_) <;> (try simp only [nrm] at h) <;> (try exact Bool.noConfusion h))
      all_goals try simp -dsimp [hs]
      all_goals try clear hs
      all_goals simp [hE]
    · have hs : True := trivial
      repeat' first | (with_reducible first | refine q01 ?_ | refine q11 ?_ | refine q14 ?_ | refine q17 ?_) | (with_reducible refine At.fn_ret (by simp -dsimp [hs]; exact rfl) ?_) | (refine CallE.pure (c1) ?_; try simp -dsimp [hs]) | (refine CallE.pure (c2) ?_; try simp -dsimp [hs]) | (with_reducible refine DT_regionE [0, 1, 2, 3, 8, 12] ?_; simp -dsimp [hs]) | (refine DT_cond rfl (fun h => ?_) (fun h => ?_) <;> (try simp only [nrm] at h) <;> (try exact Bool.noConfusion h))
      all_goals try simp -dsimp [hs]
      all_goals try clear hs
      all_goals simp [hE]
  · have hE : notesE n = checkR n.reg := by unfold notesE; rw [if_pos h0]
    have hs : True := trivial
    repeat' first | (with_reducible first | refine q01 ?_ | refine q02 ?_ | refine q11 ?_ | refine q17 ?_) | (with_reducible refine At.fn_ret (by simp -dsimp [h0, hs]; exact rfl) ?_) | (refine CallE.pure (c1) ?_; try simp -dsimp [h0, hs]) | (with_reducible refine DT_regionE [0, 1, 2, 3, 8, 12] ?_; simp -dsimp [h0, hs]) | (refine DT_cond rfl (fun h => ?_) (fun h => ?_) <;> (try simp only [nrm] at h) <;> (try exact Bool.noConfusion h))
    all_goals try simp -dsimp [h0, hs]
    all_goals try clear hs
    all_goals simp [hE]
end Go.Proofs
namespace Go.Ab
open Go
/-! ### Maps of answers -/
def encMB (m : List (Int × Bool)) : List (List Value × List DC) := m.map fun p => (kI p.1, [.im (rB p.2)])
def blook (n : Int) : List (Int × Bool) → Option Bool
  | [] => none
  | p :: r => if p.1 = n then some p.2 else blook n r
def bput (n : Int) (v : Bool) : List (Int × Bool) → List (Int × Bool)
  | [] => [(n, v)]
  | p :: r => if p.1 = n then (n, v) :: r else p :: bput n v r
theorem blook_bput (n k : Int) (v : Bool) : ∀ m, blook k (bput n v m) = if n = k then some v else blook k m
  | [] => by simp [bput, blook]
  | p :: r => by
    have ih := blook_bput n k v r
    simp only [bput]
    split
    · rename_i h
      simp only [blook]
      split
      · rfl
      · rename_i h2
        rw [if_neg (by omega)]
    · rename_i h
      simp only [blook, ih]
      split
      · rename_i h2
        rw [if_neg (by omega)]
      · rfl
@[simp] theorem mget_B (m : List (Int × Bool)) (n : Int) : mget [.int .i64 n] (encMB m) [.im (.raw (.bool false))] = [.im (.raw (.bool ((blook n m).getD false)))] := by
  induction m with
  | nil => rfl
  | cons p r ih =>
    have e : encMB (p :: r) = (kI p.1, [.im (rB p.2)]) :: encMB r := rfl
    rw [e]
    simp only [mget, mfind, blook, beqs_k, decide_eq_true_eq] at ih ⊢
    split
    · rfl
    · exact ih
@[simp] theorem mhas_B (m : List (Int × Bool)) (n : Int) : mhas [.int .i64 n] (encMB m) = (blook n m).isSome := by
  induction m with
  | nil => rfl
  | cons p r ih =>
    have e : encMB (p :: r) = (kI p.1, [.im (rB p.2)]) :: encMB r := rfl
    rw [e]
    simp only [mhas, mfind, blook, beqs_k, decide_eq_true_eq] at ih ⊢
    split
    · rfl
    · exact ih
@[simp] theorem mset_B (m : List (Int × Bool)) (n : Int) (v : Bool) : mset [.int .i64 n] [.im (.raw (.bool v))] (encMB m) = encMB (bput n v m) := by
  induction m with
  | nil => rfl
  | cons p r ih =>
    have e : encMB (p :: r) = (kI p.1, [.im (rB p.2)]) :: encMB r := rfl
    rw [e]
    simp only [mset, bput, beqs_k, decide_eq_true_eq] at ih ⊢
    split
    · rfl
    · rw [ih]; rfl
@[simp] theorem encMB_len (m : List (Int × Bool)) : (encMB m).length = m.length := by simp [encMB]
theorem encMB_nil : ([] : List (List Value × List DC)) = encMB [] := rfl
@[simp] theorem map_fz_B (n : Nat) (objs : List DObj) (m : List (Int × Bool)) : ((encMB m).map fun x => (x.1, x.2.map (fz n objs))) = encMB m := by
  simp [encMB, fz, DC.lt]
@[simp] theorem map_rn_B (e : Nat → Nat) (m : List (Int × Bool)) : ((encMB m).map fun x => (x.1, rnL e x.2)) = encMB m := by
  simp [encMB, rnL, rnC]
section
variable {P : Program} {G : Nat → Option (List IC)}
/-- At a call: some of the objects are the callee's, and what they are behind it is known in part. -/
theorem CallE.embed_ex {ι : Type} {f : FuncId} {args args0 : List DV} {objs objs0 : List DObj} {p : ι → Prop} {o1 : ι → List DObj} {d0 : ι → DV} {Q : DV → List DObj → Prop} {t : Tok Q} (es : List Nat) (h : DCall P G f args0 objs0 (fun d o => ∃ i, p i ∧ d = d0 i ∧ o = o1 i))
    (ha : args0.map (rnV (emb es objs.length)) = args) (hl : es.length = objs0.length) (hnd : es.Nodup) (hes : ∀ x ∈ es, x < objs.length)
    (hobj : ∀ i d, objs0[i]? = some d → objs[emb es objs.length i]? = some (rnO (emb es objs.length) d)) (hq : ∀ i, p i → Q (rnV (emb es objs.length) (d0 i)) (mergeO es objs (o1 i))) : CallE P G f args objs Q t := by
  subst ha
  refine (DCall.embed es h hl hnd hes hobj).mono fun d o ⟨d', o', ⟨i, hp, h1, h2⟩, _, h3, h4⟩ => ?_
  subst h1; subst h2; subst h3; subst h4
  exact hq i hp
end
end Go.Ab
namespace Go.Ab
open Go
@[simp] theorem rn_ims (e : Nat → Nat) (l : List (List IC)) : (ims l).map (rnL e) = ims l := by
  simp only [ims, List.map_map]
  exact List.map_congr_left fun x _ => by simp [rnL_im]
@[simp] theorem emb_nil (n o : Nat) : emb [] n o = n + o := by simp [emb]
attribute [simp] rnV rnC rnL rnVL rnO putO
def clrI (L : List Int) (off len : Nat) : List Int := L.take off ++ (List.replicate len 0 ++ L.drop (off + len))
theorem clrI_len {L : List Int} {off len : Nat} (h : off + len ≤ L.length) : (clrI L off len).length = L.length := by simp [clrI]; omega
@[simp] theorem dclearE_I (L : List Int) (off len : Nat) : dclearE (ims (L.map encI)) off len (.im (.raw (.int .i64 0))) = ims ((clrI L off len).map encI) := by
  simp only [dclearE, clrI, ims, List.map_append, List.map_take, List.map_drop, List.map_replicate]
  rfl
theorem QCall.thaw {P : Program} {G : Nat → Option (List IC)} {f : FuncId} {args args0 : List DV} {d0 : DV} {objs : List DObj} {K : DV → Prop} {t : Tok K} (h : ∀ objs, DCall P G f args0 objs (fun d o => d = d0 ∧ o = objs)) (ha : args0 = args.map (fzV 0 objs)) (hd : FlV d0) (hk : K d0) : QCall P G f args objs K t :=
  ⟨d0, DCall.thaw h ha hd, hk⟩
end Go.Ab
namespace Go.Proofs
open Go Go.Ab
set_option linter.unusedSimpArgs false
variable {G : Nat → Option (List IC)}
def noteG (G : Nat → Option (List IC)) : Prop := G 1 = some [.fn (.func 205) [], .fn (.func 206) [], .fn (.func 207) [], .fn (.func 208) [], .fn (.func 209) [], .fn (.func 210) [], .fn (.func 213) [], .fn (.func 215) []]
/-- The slices.Sort of this program. -/
def SortOk (G : Nat → Option (List IC)) : Prop := ∀ (l : List Int) (g sz : Nat) (nl : Bool), (sz = 1 ∨ nl = true ∧ l = []) → l.length < 1000000 → DCall Tryz.prog G 50 [.one (.vec 0 g 0 l.length)] [.vec sz (ims (l.map encI)) g nl] (fun d o => d = .tup [] ∧ o = [.vec sz (ims ((isort l).map encI)) g nl])
def fileI (n : Notes) : IC := .ip [.sl (n.reg.map encIssue), .sl (n.notes.map encNote), .sl ((nums n.reg).map encI), .sl ((isort (openL n.notes)).map encI)]
def fileR (n : Notes) : DV := if notesE n = 0 then .one (.im (fileI n)) else .one (.im (.raw (.pointer none)))
theorem fileR_im (n : Notes) : ImV (fileR n) := by unfold fileR; split <;> simp [fileI]
attribute [simp] fileR_im
theorem notesE_bad {n : Notes} {i : Nat} {x : Note} (h0 : checkR n.reg = 0) (hx : n.notes[i]? = some x) (h : nkA n i x = false) : notesE n = 30 := by
  unfold notesE
  rw [if_neg (by simp [h0]), if_neg]
  intro hb
  have := (notesB_iff.1 hb).2.1 i x hx
  rw [h] at this; cases this
set_option maxHeartbeats 4000000 in
theorem opened_c (n : Notes) (hG : sheetG G) (hN : noteG G) (hS : SortOk G) (hs : NSm n) (objs : List DObj) : DCall Tryz.prog G 64 [notesv n] objs (fun rr objs' => rr = .tup [fileR n, iv (notesE n)] ∧ objs' = objs) := by
  refine DCall.frame ?_ (by simp) (by simp) objs
  refine DCall_intro Tryz.func64 rfl Tryz.ntmps64 (by simp) rfl ?_
  try simp only [notesv]
  have hN' : G 1 = some [.fn (.func 205) [], .fn (.func 206) [], .fn (.func 207) [], .fn (.func 208) [], .fn (.func 209) [], .fn (.func 210) [], .fn (.func 213) [], .fn (.func 215) []] := hN
  obtain ⟨hsr, hsn, hsx⟩ := hs
  have c1 := drawings_c n.reg hG hsr
  by_cases h0 : checkR n.reg = 0
  · rw [h0, show drawR n.reg = nums n.reg by simp [drawR, h0]] at c1
    by_cases hl : n.notes.length ≤ 12
    · have hli : ¬ (12 : Int) < n.notes.length := by omega
      have hE : notesE n = if notesB n then 0 else 30 := by unfold notesE; rw [if_neg (by simp [h0])]
      have hs : True := trivial
      repeat' first | (with_reducible first | refine q01 ?_ | refine q11 ?_ | refine q12 ?_ | refine q13 ?_ | refine q14 ?_ | refine q15 ?_) | (refine CallE.pure (c1) ?_; try simp -dsimp [hli, hs]) | (with_reducible refine DT_regionN (id := 6) (nt := 78) [0, 1, 2, 3, 4, 5, 6, 7, 8, 9, 11, 19, 24, 30, 31, 32, 33, 37, 38, 39, 46, 50, 71] rfl ?_; simp -dsimp [hli, hs]) | (with_reducible refine DT_regionE [0, 1, 2, 3, 4, 5, 6, 7, 8, 9, 11, 19, 24, 30, 31, 32, 33, 37, 38, 39, 46, 50, 71] ?_; simp -dsimp [hli, hs]) | (refine DT_cond rfl (fun h => ?_) (fun h => ?_) <;> (try simp only [nrm] at h) <;> (try exact Bool.noConfusion h))
      all_goals try simp -dsimp [hli, hs]
      all_goals try clear hs
      refine DT_loop (ι := { p : Nat × Nat × Nat × Bool // p.1 ≤ n.notes.length ∧ (p.2.2.1 = 1 ∨ p.2.2.2 = true ∧ openL (n.notes.take p.1) = []) ∧ ∀ (j : Nat) (x : Note), j < p.1 → n.notes[j]? = some x → nkA n j x = true }) (fun p => ⟨78, [(1, .one (.ptr 0 0)), (2, .one (.im (.raw (.pointer none)))), (3, iv 0), (6, .one (.ptr 5 0)), (7, bv false), (30, .one (.im (.sl (n.notes.map encNote)))), (31, iv (n.notes.length : Int)), (32, iv (p.1.1 : Int))], [.row ((encNotes n).map .im), .vec 0 [] 0 true, .vec 0 [] 0 true, .vec 0 [] 0 true, .vec p.1.2.2.1 (ims ((openL (n.notes.take p.1.1)).map encI)) p.1.2.1 p.1.2.2.2, .row [.im (.sl (n.reg.map encIssue)), .im (.sl (n.notes.map encNote)), .im (.sl ((nums n.reg).map encI)), .vec 4 p.1.2.1 0 (openL (n.notes.take p.1.1)).length]]⟩) (fun p => n.notes.length - p.1.1) ⟨(0, 0, 0, true), by simp [openL]⟩ (Weak.of_drop [1,2,3,6,7,30,31,32] 6 (by simp) (by simp) (by simp [openL])) ?_
      rintro ⟨⟨k, g, sz, nl⟩, hk, hsz, hok⟩
      simp only at hk hsz hok
      simp only [iv, bv]
      by_cases hlt : k < n.notes.length
      · have hx0 : n.notes[k]? = some n.notes[k] := by simp [hlt]
        have hw : IntKind.i64.wrap ((k : Int) + 1) = ((k + 1 : Nat) : Int) := i64w (by omega) (by omega)
        have hos := openL_snoc n.notes k hlt
        have hol := openL_len (n.notes.take k)
        rw [List.length_take] at hol
        generalize hx : n.notes[k] = x at *
        have k1 := nk1_c (G := G) n k x hx0
        have k2 := nk2_c (G := G) n k x hx0
        have k3 := nk3_c (G := G) n k x hx0
        have k4 := nk4_c (G := G) n k x hx0 hG hsr
        have k5 := nk5_c (G := G) n k x hx0
        have k6 := nk6_c (G := G) n k x hx0 (by omega)
        have k7 := nk7_c (G := G) n k x hx0 (by omega)
        have k8 := nk8_c (G := G) n k x hx0 (by omega)
        rw [show nk1 x = nkI n k x 0 from rfl] at k1
        rw [show nk2 x = nkI n k x 1 from rfl] at k2
        rw [show nk3 x = nkI n k x 2 from rfl] at k3
        rw [show nk4 n.reg x = nkI n k x 3 from rfl] at k4
        rw [show nk5 x = nkI n k x 4 from rfl] at k5
        rw [show nk6 n.notes k x = nkI n k x 5 from rfl] at k6
        rw [show nk7 n.notes k x = nkI n k x 6 from rfl] at k7
        rw [show nk8 n.notes k x = nkI n k x 7 from rfl] at k8
        have hbad : ∀ c, nkI n k x c = false → notesE n = 30 := fun c h => notesE_bad h0 hx0 (nkI_bad h)
        have hstep : nkA n k x = true → ∀ (j : Nat) (z : Note), j < k + 1 → n.notes[j]? = some z → nkA n j z = true := fun h j z hj hz => by
          by_cases e : j = k
          · subst e; rw [hx0] at hz; cases hz; exact h
          · exact hok j z (by omega) hz
        have hs : True := trivial
        repeat' first | (with_reducible first | refine q01 ?_ | refine q11 ?_ | refine q12 ?_ | refine q14 ?_) | (with_reducible refine DT_regionE [0, 1, 2, 3, 4, 5, 6, 7, 8, 9, 11, 19, 24, 30, 31, 32, 33, 37, 38, 39, 46, 50, 71] ?_; simp -dsimp [hx, hlt, hN', hs]) | (refine DT_cond rfl (fun h => ?_) (fun h => ?_) <;> (try simp only [nrm] at h) <;> (try exact Bool.noConfusion h))
        all_goals try simp -dsimp [hx, hlt, hN', hs]
        all_goals try clear hs
        refine DT_loop (ι := { c : Nat // c ≤ 8 ∧ ∀ e < c, nkI n k x e = true }) (fun p => ⟨78, [(1, .one (.ptr 0 0)), (2, .one (.im (.raw (.pointer none)))), (3, iv 0), (6, .one (.ptr 5 0)), (7, bv false), (8, iv (k : Int)), (9, .one (.ptr 6 0)), (30, .one (.im (.sl (n.notes.map encNote)))), (31, iv (n.notes.length : Int)), (32, iv (k : Int)), (37, .agg [.im (.fn (.func 205) []), .im (.fn (.func 206) []), .im (.fn (.func 207) []), .im (.fn (.func 208) []), .im (.fn (.func 209) []), .im (.fn (.func 210) []), .im (.fn (.func 213) []), .im (.fn (.func 215) [])]), (38, iv (p.1 : Int))], [.row ((encNotes n).map .im), .vec 0 [] 0 true, .vec 0 [] 0 true, .vec 0 [] 0 true, .vec sz (ims ((openL (n.notes.take k)).map encI)) g nl, .row [.im (.sl (n.reg.map encIssue)), .im (.sl (n.notes.map encNote)), .im (.sl ((nums n.reg).map encI)), .vec 4 g 0 (openL (n.notes.take k)).length], .row ((encNote x).map .im)]⟩) (fun p => 8 - p.1) ⟨0, by simp⟩ (Weak.of_keep [1,2,3,6,7,8,9,30,31,32,37,38] (by simp)) ?_
        rintro ⟨c, hc, hcc⟩
        simp only [iv, bv]
        by_cases hc8 : c < 8
        · have hm : nkI n k x c = true → ∀ e < c + 1, nkI n k x e = true := fun h e he => by
            rcases Nat.lt_succ_iff_lt_or_eq.1 he with h1 | rfl
            · exact hcc e h1
            · exact h
          have hbc := hbad c
          have hi8 : c = 0 ∨ c = 1 ∨ c = 2 ∨ c = 3 ∨ c = 4 ∨ c = 5 ∨ c = 6 ∨ c = 7 := by omega
          rcases hi8 with rfl | rfl | rfl | rfl | rfl | rfl | rfl | rfl
          all_goals
            have hs : True := trivial
            repeat' first | (with_reducible first | refine q01 ?_ | refine q02 ?_ | refine q03 ?_ | refine q04 ?_ | refine q06 ?_ | refine q07 (by decide) ?_ | refine q09 ?_ | refine q11 ?_ | refine q12 ?_ | refine q14 ?_ | refine q16 ?_ | refine q17 ?_) | (with_reducible refine At.fn_ret (by simp -dsimp [hli, hs]; exact rfl) ?_) | (refine CallE.pure (k1) ?_; try simp -dsimp [hli, hs]) | (refine CallE.pure (k2) ?_; try simp -dsimp [hli, hs]) | (refine CallE.pure (k3) ?_; try simp -dsimp [hli, hs]) | (refine CallE.pure (k4) ?_; try simp -dsimp [hli, hs]) | (refine CallE.pure (k5) ?_; try simp -dsimp [hli, hs]) | (refine CallE.pure (k6) ?_; try simp -dsimp [hli, hs]) | (refine CallE.pure (k7) ?_; try simp -dsimp [hli, hs]) | (refine CallE.pure (k8) ?_; try simp -dsimp [hli, hs]) | (with_reducible refine DT_regionE [0, 1, 2, 3, 4, 5, 6, 7, 8, 9, 11, 19, 24, 30, 31, 32, 33, 37, 38, 39, 46, 50, 71] ?_; simp -dsimp [hli, hs]) | (refine DT_cond rfl (fun h => ?_) (fun h => ?_) <;> (try simp only [nrm] at h) <;> (try exact Bool.noConfusion h))
            all_goals try simp -dsimp [hli, hs]
            all_goals try clear hs
          all_goals try (have h30 := hbc (by assumption); simp [fileR, h30]; done)
          all_goals exact At.round ⟨_, by omega, hm (by assumption)⟩ (by simp) (Weak.of_drop [1,2,3,6,7,8,9,30,31,32,37,38] 7 (by simp) (by simp) (by simp; exact i64w (by omega) (by omega)))
        · obtain rfl : c = 8 := by omega
          have hok1 := hstep (nkI_all hcc)
          have hsz' : sz = 1 ∨ nl = true := hsz.imp id And.left
          clear k1 k2 k3 k4 k5 k6 k7 k8
          by_cases hsg : x.signed = 1
          · rw [if_pos hsg] at hos
            have hs : True := trivial
            repeat' first | (with_reducible first | refine q01 ?_ | refine q03 ?_ | refine q04 ?_ | refine q06 ?_ | refine q11 ?_ | refine q16 ?_ | refine And.intro (by omega) ?_) | (refine DT_regionX (id := 18) (nt := 78) 8 [0] [0, 1, 2, 3, 4, 5, 6, 7, 8, 9, 11, 19, 24, 30, 31, 32, 33, 37, 38, 39, 46, 50, 52, 53, 54, 55, 56, 57, 58, 71] [0, 1, 2, 3, 4, 5, 6, 7, 8, 9, 11, 19, 24, 30, 31, 32, 33, 37, 38, 39, 46, 50, 71] mixed rfl (by kernel_rfl) ?_; simp -dsimp [hx, hlt, hsg, hw, hsz', hs]) | (with_reducible refine DT_regionE [0, 1, 2, 3, 4, 5, 6, 7, 8, 9, 11, 19, 24, 30, 31, 32, 33, 37, 38, 39, 46, 50, 71] ?_; simp -dsimp [hx, hlt, hsg, hw, hsz', hs]) | (refine DT_cond rfl (fun h => ?_) (fun h => ?_) <;> (try simp only [nrm] at h) <;> (try exact Bool.noConfusion h))
            all_goals try simp -dsimp [hx, hlt, hsg, hw, hsz', hs]
            all_goals try clear hs
            exact At.round ⟨(k + 1, g + 1, 1, false), by omega, .inl rfl, hok1⟩ (by simp; omega) (Weak.of_drop [1,2,3,6,7,30,31,32] 6 (by simp) (by simp) (by simp [hos]))
          · rw [if_neg hsg, List.append_nil] at hos
            have hszn : sz = 1 ∨ nl = true ∧ openL (n.notes.take (k + 1)) = [] := by rw [hos]; exact hsz
            have hs : True := trivial
            repeat' first | (with_reducible first | refine q01 ?_ | refine q03 ?_ | refine q04 ?_ | refine q06 ?_ | refine q11 ?_ | refine q14 ?_ | refine q16 ?_) | (with_reducible refine DT_regionE [0, 1, 2, 3, 4, 5, 6, 7, 8, 9, 11, 19, 24, 30, 31, 32, 33, 37, 38, 39, 46, 50, 71] ?_; simp -dsimp [hx, hlt, hsg, hw, hs]) | (refine DT_cond rfl (fun h => ?_) (fun h => ?_) <;> (try simp only [nrm] at h) <;> (try exact Bool.noConfusion h))
            all_goals try simp -dsimp [hx, hlt, hsg, hw, hs]
            all_goals try clear hs
            exact At.round ⟨(k + 1, g, sz, nl), by omega, hszn, hok1⟩ (by simp; omega) (Weak.of_drop [1,2,3,6,7,30,31,32] 6 (by simp) (by simp) (by simp [hos]))
      · obtain rfl : k = n.notes.length := by omega
        rw [List.take_length] at *
        have hall : allOk n := fun i x hx => hok i x (lt_of_getElem? hx) hx
        have hol := openL_len n.notes
        have c2 := hS (openL n.notes) g sz nl hsz (by omega)
        have hil := isort_len (openL n.notes)
        by_cases h5 : (openL n.notes).length ≤ 5
        · have hE0 : notesE n = 0 := by rw [hE, if_pos (notesB_iff.2 ⟨hl, hall, h5⟩)]
          have h5i : ¬ (5 : Int) < (openL n.notes).length := by omega
          have hsz' : sz = 1 ∨ nl = true := hsz.imp id And.left
          have htk : (ims ((isort (openL n.notes)).map encI)).take (openL n.notes).length = ims ((isort (openL n.notes)).map encI) := List.take_of_length_le (by simp [ims_length, hil])
          have hs : True := trivial
          repeat' first | (with_reducible first | refine q01 ?_ | refine q03 ?_ | refine q06 ?_ | refine q09 ?_ | refine q11 ?_ | refine q14 ?_ | refine q16 ?_ | refine q17 ?_) | (with_reducible refine At.fn_ret (by simp -dsimp [hlt, h5i, hsz', htk, hil, hs]; exact rfl) ?_) | (refine CallE.embed [4] (c2) ?_ ?_ ?_ ?_ ?_ ?_; (focus (simp [emb]; done)); (focus (simp; done)); (focus (simp; done)); (focus (simp; done)); (focus (refine emb_all ?_; simp [emb, embAll]; done)); try simp -dsimp [mergeO, emb, hlt, h5i, hsz', htk, hil, hs]) | (with_reducible refine DT_regionE [0, 1, 2, 3, 4, 5, 6, 7, 8, 9, 11, 19, 24, 30, 31, 32, 33, 37, 38, 39, 46, 50, 71] ?_; simp -dsimp [hlt, h5i, hsz', htk, hil, hs]) | (refine DT_cond rfl (fun h => ?_) (fun h => ?_) <;> (try simp only [nrm] at h) <;> (try exact Bool.noConfusion h))
          all_goals try simp -dsimp [hlt, h5i, hsz', htk, hil, hs]
          all_goals try clear hs
          all_goals simp [fileR, hE0, fileI, hil, htk]
        · have hE0 : notesE n = 30 := by rw [hE, if_neg fun h => h5 (notesB_iff.1 h).2.2]
          have h5i : (5 : Int) < (openL n.notes).length := by omega
          have hs : True := trivial
          repeat' first | (with_reducible first | refine q01 ?_ | refine q02 ?_ | refine q03 ?_ | refine q06 ?_ | refine q09 ?_ | refine q11 ?_ | refine q16 ?_ | refine q17 ?_) | (with_reducible refine At.fn_ret (by simp -dsimp [hlt, h5i, hs]; exact rfl) ?_) | (with_reducible refine DT_regionE [0, 1, 2, 3, 4, 5, 6, 7, 8, 9, 11, 19, 24, 30, 31, 32, 33, 37, 38, 39, 46, 50, 71] ?_; simp -dsimp [hlt, h5i, hs]) | (refine DT_cond rfl (fun h => ?_) (fun h => ?_) <;> (try simp only [nrm] at h) <;> (try exact Bool.noConfusion h))
          all_goals try simp -dsimp [hlt, h5i, hs]
          all_goals try clear hs
          all_goals simp [fileR, hE0]
    · have hE : notesE n = 30 := by
        unfold notesE
        rw [if_neg (by simp [h0]), if_neg fun h => hl (notesB_iff.1 h).1]
      have hli : (12 : Int) < n.notes.length := by omega
      have hs : True := trivial
      repeat' first | (with_reducible first | refine q01 ?_ | refine q02 ?_ | refine q09 ?_ | refine q11 ?_ | refine q13 ?_ | refine q14 ?_ | refine q17 ?_) | (with_reducible refine At.fn_ret (by simp -dsimp [hli, hs]; exact rfl) ?_) | (refine CallE.pure (c1) ?_; try simp -dsimp [hli, hs]) | (with_reducible refine DT_regionE [0, 1, 2, 3, 4, 5, 6, 7, 8, 9, 11, 19, 24, 30, 31, 32, 33, 37, 38, 39, 46, 50, 71] ?_; simp -dsimp [hli, hs]) | (refine DT_cond rfl (fun h => ?_) (fun h => ?_) <;> (try simp only [nrm] at h) <;> (try exact Bool.noConfusion h))
      all_goals try simp -dsimp [hli, hs]
      all_goals try clear hs
      all_goals simp [fileR, hE]
  · have hE : notesE n = checkR n.reg := by unfold notesE; rw [if_pos h0]
    have hs : True := trivial
    repeat' first | (with_reducible first | refine q01 ?_ | refine q02 ?_ | refine q09 ?_ | refine q11 ?_ | refine q13 ?_ | refine q17 ?_) | (with_reducible refine At.fn_ret (by simp -dsimp [h0, hs]; exact rfl) ?_) | (refine CallE.pure (c1) ?_; try simp -dsimp [h0, hs]) | (with_reducible refine DT_regionE [0, 1, 2, 3, 4, 5, 6, 7, 8, 9, 11, 19, 24, 30, 31, 32, 33, 37, 38, 39, 46, 50, 71] ?_; simp -dsimp [h0, hs]) | (refine DT_cond rfl (fun h => ?_) (fun h => ?_) <;> (try simp only [nrm] at h) <;> (try exact Bool.noConfusion h))
    all_goals try simp -dsimp [h0, hs]
    all_goals try clear hs
    all_goals simp [fileR, hE, h0]
end Go.Proofs
namespace Go.Proofs
open Go Go.Ab
set_option linter.unusedSimpArgs false
variable {G : Nat → Option (List IC)}
theorem sput_take {O : List Int} {j : Nat} (hd : O.Nodup) (hj : j < O.length) : sput O[j] (O.take j) = O.take (j + 1) := by
  unfold sput
  rw [if_neg, List.take_succ_eq_append_getElem hj]
  intro hm
  obtain ⟨i, hi, e⟩ := List.mem_take_iff_getElem.1 hm
  have := (List.getElem_inj hd).1 e; omega
set_option maxHeartbeats 1000000 in
theorem truth_c (a b c : IC) (O s : List Int) (hd : O.Nodup) (hO : O.length < 1000) (hsl : s.length < 1000) (objs : List DObj) : DCall Tryz.prog G 106 [.one (.im (.ip [a, b, c, .sl (O.map encI)])), isv s] objs (fun rr objs' => rr = iv (if truthB O s then 0 else 31) ∧ objs' = objs) := by
  refine DCall.frame ?_ (by simp) (by simp) objs
  refine DCall_intro Tryz.func106 rfl Tryz.ntmps106 (by simp) rfl ?_
  try simp only [isv]
  have hs : True := trivial
  repeat' first | (with_reducible first | refine q01 ?_ | refine q11 ?_ | refine q12 ?_) | (with_reducible refine DT_regionE [0, 1, 4, 5, 7, 8, 9, 14, 15, 16, 17, 23, 24, 25, 26, 46] ?_; simp -dsimp [hs])
  all_goals try simp -dsimp [hs]
  all_goals try clear hs
  refine DT_loop (ι := { j : Nat // j ≤ O.length }) (fun p => ⟨50, [(1, isv s), (4, iv 0), (5, .one (.map 0)), (14, .one (.im (.sl (O.map encI)))), (15, iv (O.length : Int)), (16, iv (p.1 : Int))], [.map [.int .i64] (encS (O.take p.1))]⟩) (fun p => O.length - p.1) ⟨0, by omega⟩ (Weak.of_keep [1,4,5,14,15,16] (by simp [encS])) ?_
  rintro ⟨j, hj⟩
  simp only [iv, isv]
  by_cases hlt : j < O.length
  · have hw : IntKind.i64.wrap ((j : Int) + 1) = ((j + 1 : Nat) : Int) := i64w (by omega) (by omega)
    have hst := sput_take hd hlt
    generalize hx : O[j] = x at *
    have hs : True := trivial
    repeat' first | (with_reducible first | refine q01 ?_ | refine q04 ?_ | refine q11 ?_ | refine q12 ?_ | refine q14 ?_) | (with_reducible refine DT_regionE [0, 1, 4, 5, 7, 8, 9, 14, 15, 16, 17, 23, 24, 25, 26, 46] ?_; simp -dsimp [hx, hlt, hw, hst, hs]) | (refine DT_cond rfl (fun h => ?_) (fun h => ?_) <;> (try simp only [nrm] at h) <;> (try exact Bool.noConfusion h))
    all_goals try simp -dsimp [hx, hlt, hw, hst, hs]
    all_goals try clear hs
    exact At.round ⟨j + 1, by omega⟩ (by simp; omega) (Weak.of_keep [1,4,5,14,15,16] (by simp [hst]))
  · obtain rfl : j = O.length := by omega
    rw [List.take_length]
    have hs : True := trivial
    repeat' first | (with_reducible first | refine q01 ?_ | refine q03 ?_ | refine q06 ?_ | refine q11 ?_ | refine q12 ?_ | refine q16 ?_) | (with_reducible refine DT_regionE [0, 1, 4, 5, 7, 8, 9, 14, 15, 16, 17, 23, 24, 25, 26, 46] ?_; simp -dsimp [hlt, hs]) | (refine DT_cond rfl (fun h => ?_) (fun h => ?_) <;> (try simp only [nrm] at h) <;> (try exact Bool.noConfusion h))
    all_goals try simp -dsimp [hlt, hs]
    all_goals try clear hs
    refine DT_loop (ι := { p : Nat × List Int // p.1 ≤ s.length ∧ p.2.Nodup ∧ (∀ m, m ∈ p.2 ↔ m ∈ O ∧ m ∉ s.take p.1) ∧ truthTo O s p.1 }) (fun p => ⟨50, [(1, isv s), (5, .one (.map 0)), (23, isv s), (24, iv (s.length : Int)), (25, iv (p.1.1 : Int))], [.map [.int .i64] (encS p.1.2)]⟩) (fun p => s.length - p.1.1) ⟨(0, O), by simp, hd, by simp, fun i v h => by omega⟩ (Weak.of_keep [1,5,23,24,25] (by simp)) ?_
    rintro ⟨⟨i, L⟩, hi, hLd, hLm, hto⟩
    simp only at hi hLd hLm hto
    simp only [iv, isv]
    by_cases hlt2 : i < s.length
    · have hx0 : s[i]? = some s[i] := by simp [hlt2]
      have hw : IntKind.i64.wrap ((i : Int) + 1) = ((i + 1 : Nat) : Int) := i64w (by omega) (by omega)
      have hLv := hLm s[i]
      have hLn : ∀ m, m ∈ L.erase s[i] ↔ m ∈ O ∧ m ∉ s.take (i + 1) := fun m => by
        rw [hLd.mem_erase_iff, hLm, List.take_succ_eq_append_getElem hlt2]
        simp only [List.mem_append, List.mem_singleton, not_or]
        exact ⟨fun h => ⟨h.2.1, h.2.2, h.1⟩, fun h => ⟨h.2.2, h.1, h.2.1⟩⟩
      have hLe := hLd.erase s[i]
      generalize hv : s[i] = v at *
      by_cases hmem : v ∈ L
      · have hmd : decide (v ∈ L) = true := by simp [hmem]
        by_cases h00 : i = 0
        · have hnext := truthTo_step hto hx0 (hLv.1 hmem).1 (fun j u e => by omega)
          subst h00
          have hs : True := trivial
          repeat' first | (with_reducible first | refine q01 ?_ | refine q04 ?_ | refine q11 ?_ | refine q12 ?_ | refine q14 ?_) | (with_reducible refine DT_regionE [0, 1, 4, 5, 7, 8, 9, 14, 15, 16, 17, 23, 24, 25, 26, 46] ?_; simp -dsimp [hv, hlt2, hmd, hmem, hs]) | (refine DT_cond rfl (fun h => ?_) (fun h => ?_) <;> (try simp only [nrm] at h) <;> (try exact Bool.noConfusion h))
          all_goals try simp -dsimp [hv, hlt2, hmd, hmem, hs]
          all_goals try clear hs
          exact At.round ⟨(0 + 1, L.erase v), by omega, hLe, hLn, hnext⟩ (by simp; omega) (Weak.of_keep [1,5,23,24,25] (by simp; exact i64w (by omega) (by omega)))
        · have hq : i - 1 < s.length := by omega
          have hwq : IntKind.i64.wrap ((i : Int) - 1) = ((i - 1 : Nat) : Int) := by rw [i64w (by omega) (by omega)]; omega
          have hi0 : (0 : Int) < (i : Int) := by omega
          have hin0 : 0 < i := by omega
          have hu0 : s[i - 1]? = some s[i - 1] := by simp [hq]
          have hnin : s[i - 1] ≠ v := fun e => (hLv.1 hmem).2 (e ▸ List.mem_take_iff_getElem.2 ⟨i - 1, by omega, rfl⟩)
          generalize hu : s[i - 1] = u at *
          by_cases hlu : v < u
          · have hb := truth_bad (o := O) hx0 (.inr ⟨i - 1, u, by omega, hu0, by omega⟩)
            have hs : True := trivial
            repeat' first | (with_reducible first | refine q01 ?_ | refine q02 ?_ | refine q05 ?_ | refine q11 ?_ | refine q12 ?_ | refine q14 ?_ | refine q17 ?_) | (with_reducible refine At.fn_ret (by simp -dsimp [hv, hu, hq, hlt2, hw, hwq, hmd, hmem, hi0, hin0, hlu, hs]; exact rfl) ?_) | (with_reducible refine DT_regionE [0, 1, 4, 5, 7, 8, 9, 14, 15, 16, 17, 23, 24, 25, 26, 46] ?_; simp -dsimp [hv, hu, hq, hlt2, hw, hwq, hmd, hmem, hi0, hin0, hlu, hs]) | (refine DT_cond rfl (fun h => ?_) (fun h => ?_) <;> (try simp only [nrm] at h) <;> (try exact Bool.noConfusion h))
            all_goals try simp -dsimp [hv, hu, hq, hlt2, hw, hwq, hmd, hmem, hi0, hin0, hlu, hs]
            all_goals try clear hs
            all_goals simp [hb]
          · have hnext := truthTo_step hto hx0 (hLv.1 hmem).1 (fun j u' e hu' => by
              obtain rfl : i - 1 = j := by omega
              rw [hu0] at hu'; cases hu'; omega)
            have hs : True := trivial
            repeat' first | (with_reducible first | refine q01 ?_ | refine q04 ?_ | refine q11 ?_ | refine q12 ?_ | refine q14 ?_) | (with_reducible refine DT_regionE [0, 1, 4, 5, 7, 8, 9, 14, 15, 16, 17, 23, 24, 25, 26, 46] ?_; simp -dsimp [hv, hu, hq, hlt2, hw, hwq, hmd, hmem, hi0, hin0, hlu, hs]) | (refine DT_cond rfl (fun h => ?_) (fun h => ?_) <;> (try simp only [nrm] at h) <;> (try exact Bool.noConfusion h))
            all_goals try simp -dsimp [hv, hu, hq, hlt2, hw, hwq, hmd, hmem, hi0, hin0, hlu, hs]
            all_goals try clear hs
            exact At.round ⟨(i + 1, L.erase v), by omega, hLe, hLn, hnext⟩ (by simp; omega) (Weak.of_keep [1,5,23,24,25] (by simp))
      · have hmd : decide (v ∈ L) = false := by simp [hmem]
        have hb : truthB O s = false := by
          refine truth_bad hx0 ?_
          by_cases ho : v ∈ O
          · refine .inr ?_
            cases i with
            | zero => exact absurd (hLv.2 ⟨ho, by simp⟩) hmem
            | succ q =>
              have hq : q < s.length := by omega
              refine ⟨q, s[q], rfl, by simp [hq], Int.not_lt.1 fun hlt3 => hmem (hLv.2 ⟨ho, truthTo_new hto hq hlt3⟩)⟩
          · exact .inl ho
        have hs : True := trivial
        repeat' first | (with_reducible first | refine q01 ?_ | refine q02 ?_ | refine q05 ?_ | refine q11 ?_ | refine q12 ?_ | refine q14 ?_ | refine q17 ?_) | (with_reducible refine At.fn_ret (by simp -dsimp [hv, hlt2, hmd, hmem, hs]; exact rfl) ?_) | (with_reducible refine DT_regionE [0, 1, 4, 5, 7, 8, 9, 14, 15, 16, 17, 23, 24, 25, 26, 46] ?_; simp -dsimp [hv, hlt2, hmd, hmem, hs]) | (refine DT_cond rfl (fun h => ?_) (fun h => ?_) <;> (try simp only [nrm] at h) <;> (try exact Bool.noConfusion h))
        all_goals try simp -dsimp [hv, hlt2, hmd, hmem, hs]
        all_goals try clear hs
        all_goals simp [hb]
    · have hb : truthB O s = true := truth_good (truthTo_all (by rwa [show i = s.length by omega] at hto))
      have hs : True := trivial
      repeat' first | (with_reducible first | refine q01 ?_ | refine q03 ?_ | refine q06 ?_ | refine q11 ?_ | refine q16 ?_ | refine q17 ?_) | (with_reducible refine At.fn_ret (by simp -dsimp [hlt2, hs]; exact rfl) ?_) | (with_reducible refine DT_regionE [0, 1, 4, 5, 7, 8, 9, 14, 15, 16, 17, 23, 24, 25, 26, 46] ?_; simp -dsimp [hlt2, hs]) | (refine DT_cond rfl (fun h => ?_) (fun h => ?_) <;> (try simp only [nrm] at h) <;> (try exact Bool.noConfusion h))
      all_goals try simp -dsimp [hlt2, hs]
      all_goals try clear hs
      all_goals simp [hb]
def askedE (n : Notes) (s : List Int) (m : Int) : Int := if notesE n ≠ 0 then notesE n else if truthB (isort (openL n.notes)) s = false then 31 else if 1 ≤ m ∧ m ≤ 999 then 0 else 2
def askedR (n : Notes) (s : List Int) (m : Int) : DV := if askedE n s m = 0 then .one (.im (fileI n)) else .one (.im (.raw (.pointer none)))
theorem askedR_im (n : Notes) (s : List Int) (m : Int) : ImV (askedR n s m) := by unfold askedR; split <;> simp [fileI]
attribute [simp] askedR_im
theorem asked_ok {n : Notes} {s : List Int} {m : Int} (h : askedE n s m = 0) : notesE n = 0 ∧ truthB (isort (openL n.notes)) s = true ∧ 1 ≤ m ∧ m ≤ 999 := by
  unfold askedE at h
  split at h
  · contradiction
  · split at h
    · cases h
    · split at h
      · rename_i h1 h2 h3; exact ⟨by simpa using h1, by simpa using h2, h3⟩
      · cases h
theorem notes_ok {n : Notes} (h : notesE n = 0) : checkR n.reg = 0 ∧ n.notes.length ≤ 12 ∧ allOk n ∧ (openL n.notes).length ≤ 5 := by
  unfold notesE at h
  split at h
  · contradiction
  · split at h
    · rename_i h1 h2; exact ⟨by simpa using h1, notesB_iff.1 h2⟩
    · cases h
theorem asked_c (n : Notes) (s : List Int) (m : Int) (hG : sheetG G) (hN : noteG G) (hS : SortOk G) (hs : NSm n) (hsl : s.length < 1000) (objs : List DObj) : DCall Tryz.prog G 57 [notesv n, isv s, iv m] objs (fun rr objs' => rr = .tup [askedR n s m, iv (askedE n s m)] ∧ objs' = objs) := by
  refine DCall.frame ?_ (by simp) (by simp) objs
  refine DCall_intro Tryz.func57 rfl Tryz.ntmps57 (by simp) rfl ?_
  try simp only [notesv, isv, iv]
  have c1 := opened_c n hG hN hS hs
  by_cases h0 : notesE n = 0
  · rw [h0, show fileR n = .one (.im (fileI n)) by unfold fileR; rw [if_pos h0]] at c1
    have hok := notes_ok h0
    have hnl := hs.2.1
    have hol := openL_len n.notes
    have c2 := truth_c (G := G) (.sl (n.reg.map encIssue)) (.sl (n.notes.map encNote)) (.sl ((nums n.reg).map encI)) (isort (openL n.notes)) s (isort_nodup (openL_nodup hok.2.2.1)) (by rw [isort_len]; omega) hsl
    have c3 := in_note (G := G) 1 999 [m] (by simp)
    have hE : askedE n s m = if truthB (isort (openL n.notes)) s = false then 31 else if 1 ≤ m ∧ m ≤ 999 then 0 else 2 := by unfold askedE; rw [if_neg (by simp [h0])]
    simp only [fileI] at c1
    cases ht : truthB (isort (openL n.notes)) s
    · rw [ht] at c2 hE
      have hE : askedE n s m = 31 := by rw [hE]; rfl
      have hs : True := trivial
      repeat' first | (with_reducible first | refine q01 ?_ | refine q02 ?_ | refine q11 ?_ | refine q14 ?_ | refine q17 ?_) | (with_reducible refine At.fn_ret (by simp -dsimp [hs]; exact rfl) ?_) | (refine CallE.pure (c1) ?_; try simp -dsimp [hs]) | (refine CallE.pure (c2) ?_; try simp -dsimp [hs]) | (with_reducible refine DT_regionE [0, 1, 2, 3, 6, 7, 8, 9, 10, 17, 23, 28] ?_; simp -dsimp [hs]) | (refine DT_cond rfl (fun h => ?_) (fun h => ?_) <;> (try simp only [nrm] at h) <;> (try exact Bool.noConfusion h))
      all_goals try simp -dsimp [hs]
      all_goals try clear hs
      all_goals simp [askedR, hE]
    · rw [ht] at c2 hE
      by_cases hm : 1 ≤ m ∧ m ≤ 999
      · have hE : askedE n s m = 0 := by rw [hE, if_neg (by simp), if_pos hm]
        have hin : ([m].all fun x => decide (1 ≤ x) && decide (x ≤ 999)) = true := by simp [hm]
        rw [hin] at c3
        have hs : True := trivial
        repeat' first | (with_reducible first | refine q01 ?_ | refine q11 ?_ | refine q14 ?_ | refine q17 ?_) | (with_reducible refine At.fn_ret (by simp -dsimp [hs]; exact rfl) ?_) | (refine CallE.pure (c1) ?_; try simp -dsimp [hs]) | (refine CallE.pure (c2) ?_; try simp -dsimp [hs]) | (refine CallE.thaw (c3) ?_ ?_ ?_; (focus (simp; done)); (focus (simp; done)); try simp -dsimp [hs]) | (with_reducible refine DT_regionE [0, 1, 2, 3, 6, 7, 8, 9, 10, 17, 23, 28] ?_; simp -dsimp [hs]) | (refine DT_cond rfl (fun h => ?_) (fun h => ?_) <;> (try simp only [nrm] at h) <;> (try exact Bool.noConfusion h))
        all_goals try simp -dsimp [hs]
        all_goals try clear hs
        all_goals simp [askedR, hE, fileI]
      · have hE : askedE n s m = 2 := by rw [hE, if_neg (by simp), if_neg hm]
        have hin : ([m].all fun x => decide (1 ≤ x) && decide (x ≤ 999)) = false := by simp; omega
        rw [hin] at c3
        have hs : True := trivial
        repeat' first | (with_reducible first | refine q01 ?_ | refine q02 ?_ | refine q11 ?_ | refine q14 ?_ | refine q17 ?_) | (with_reducible refine At.fn_ret (by simp -dsimp [hs]; exact rfl) ?_) | (refine CallE.pure (c1) ?_; try simp -dsimp [hs]) | (refine CallE.pure (c2) ?_; try simp -dsimp [hs]) | (refine CallE.thaw (c3) ?_ ?_ ?_; (focus (simp; done)); (focus (simp; done)); try simp -dsimp [hs]) | (with_reducible refine DT_regionE [0, 1, 2, 3, 6, 7, 8, 9, 10, 17, 23, 28] ?_; simp -dsimp [hs]) | (refine DT_cond rfl (fun h => ?_) (fun h => ?_) <;> (try simp only [nrm] at h) <;> (try exact Bool.noConfusion h))
        all_goals try simp -dsimp [hs]
        all_goals try clear hs
        all_goals simp [askedR, hE]
  · rw [show fileR n = .one (.im (.raw (.pointer none))) by unfold fileR; rw [if_neg h0]] at c1
    have hE : askedE n s m = notesE n := by unfold askedE; rw [if_pos h0]
    have hs : True := trivial
    repeat' first | (with_reducible first | refine q01 ?_ | refine q02 ?_ | refine q11 ?_ | refine q17 ?_) | (with_reducible refine At.fn_ret (by simp -dsimp [h0, hs]; exact rfl) ?_) | (refine CallE.pure (c1) ?_; try simp -dsimp [h0, hs]) | (with_reducible refine DT_regionE [0, 1, 2, 3, 6, 7, 8, 9, 10, 17, 23, 28] ?_; simp -dsimp [h0, hs]) | (refine DT_cond rfl (fun h => ?_) (fun h => ?_) <;> (try simp only [nrm] at h) <;> (try exact Bool.noConfusion h))
    all_goals try simp -dsimp [h0, hs]
    all_goals try clear hs
    all_goals simp [askedR, hE, h0]
def drawnE (n : Notes) (s : List Int) (m d : Int) : Int := if askedE n s m ≠ 0 then askedE n s m else if d ∈ nums n.reg then 0 else 6
def drawnR (n : Notes) (s : List Int) (m d : Int) : DV := if drawnE n s m d = 0 then .one (.im (fileI n)) else .one (.im (.raw (.pointer none)))
theorem drawnR_im (n : Notes) (s : List Int) (m d : Int) : ImV (drawnR n s m d) := by unfold drawnR; split <;> simp [fileI]
attribute [simp] drawnR_im
theorem drawn_c (n : Notes) (s : List Int) (m d : Int) (hG : sheetG G) (hN : noteG G) (hS : SortOk G) (hs : NSm n) (hsl : s.length < 1000) (objs : List DObj) : DCall Tryz.prog G 46 [notesv n, isv s, iv m, iv d] objs (fun rr objs' => rr = .tup [drawnR n s m d, iv (drawnE n s m d)] ∧ objs' = objs) := by
  refine DCall.frame ?_ (by simp) (by simp) objs
  refine DCall_intro Tryz.func46 rfl Tryz.ntmps46 (by simp) rfl ?_
  try simp only [notesv, isv, iv, iv]
  have c1 := asked_c n s m hG hN hS hs hsl
  by_cases h0 : askedE n s m = 0
  · rw [h0, show askedR n s m = .one (.im (fileI n)) by unfold askedR; rw [if_pos h0]] at c1
    have hrl := hs.1.1
    have hnl := numsTo_length n.reg n.reg.length
    have c2 := contains_c (G := G) (nums n.reg) d (by unfold nums; omega)
    have hE : drawnE n s m d = if d ∈ nums n.reg then 0 else 6 := by unfold drawnE; rw [if_neg (by simp [h0])]
    simp only [fileI] at c1
    by_cases hd : d ∈ nums n.reg
    · rw [decide_eq_true hd] at c2
      rw [if_pos hd] at hE
      have hs : True := trivial
      repeat' first | (with_reducible first | refine q01 ?_ | refine q11 ?_ | refine q14 ?_ | refine q17 ?_) | (with_reducible refine At.fn_ret (by simp -dsimp [hs]; exact rfl) ?_) | (refine CallE.pure (c1) ?_; try simp -dsimp [hs]) | (refine CallE.pure (c2) ?_; try simp -dsimp [hs]) | (with_reducible refine DT_regionE [0, 1, 2, 3, 4, 8, 9, 10, 11, 20, 28] ?_; simp -dsimp [hs]) | (refine DT_cond rfl (fun h => ?_) (fun h => ?_) <;> (try simp only [nrm] at h) <;> (try exact Bool.noConfusion h))
      all_goals try simp -dsimp [hs]
      all_goals try clear hs
      all_goals simp [drawnR, hE, fileI]
    · rw [decide_eq_false hd] at c2
      rw [if_neg hd] at hE
      have hs : True := trivial
      repeat' first | (with_reducible first | refine q01 ?_ | refine q02 ?_ | refine q11 ?_ | refine q14 ?_ | refine q17 ?_) | (with_reducible refine At.fn_ret (by simp -dsimp [hs]; exact rfl) ?_) | (refine CallE.pure (c1) ?_; try simp -dsimp [hs]) | (refine CallE.pure (c2) ?_; try simp -dsimp [hs]) | (with_reducible refine DT_regionE [0, 1, 2, 3, 4, 8, 9, 10, 11, 20, 28] ?_; simp -dsimp [hs]) | (refine DT_cond rfl (fun h => ?_) (fun h => ?_) <;> (try simp only [nrm] at h) <;> (try exact Bool.noConfusion h))
      all_goals try simp -dsimp [hs]
      all_goals try clear hs
      all_goals simp [drawnR, hE]
  · rw [show askedR n s m = .one (.im (.raw (.pointer none))) by unfold askedR; rw [if_neg h0]] at c1
    have hE : drawnE n s m d = askedE n s m := by unfold drawnE; rw [if_pos h0]
    have hs : True := trivial
    repeat' first | (with_reducible first | refine q01 ?_ | refine q02 ?_ | refine q11 ?_ | refine q17 ?_) | (with_reducible refine At.fn_ret (by simp -dsimp [h0, hs]; exact rfl) ?_) | (refine CallE.pure (c1) ?_; try simp -dsimp [h0, hs]) | (with_reducible refine DT_regionE [0, 1, 2, 3, 4, 8, 9, 10, 11, 20, 28] ?_; simp -dsimp [h0, hs]) | (refine DT_cond rfl (fun h => ?_) (fun h => ?_) <;> (try simp only [nrm] at h) <;> (try exact Bool.noConfusion h))
    all_goals try simp -dsimp [h0, hs]
    all_goals try clear hs
    all_goals simp [drawnR, hE, h0]
end Go.Proofs
namespace Go.Proofs
open Go Go.Ab
set_option linter.unusedSimpArgs false
variable {G : Nat → Option (List IC)}
def frcCaps : List DC := [.ptr 5 0, .ptr 0 0, .ptr 1 0, .ptr 2 0, .ptr 3 0, .ptr 6 0]
def frcObjs (n : Notes) (s w : List Int) (m : Int) (M : List (Int × Bool)) : List DObj := [.row [.im (fileI n)], .row [.im (.sl (s.map encI))], .row [.im (.sl (w.map encI))], .row [.im (rI m)], .map [.int .i64] (encMB M), .row [.map 4], .row [.fn (.func 97) frcCaps]]
theorem force_c (n : Notes) (s w : List Int) (m : Int) : DCall Tryz.prog G 49 [.one (.im (fileI n)), isv s, isv w, iv m] [] (fun d o => d = .one (.fn (.func 97) frcCaps) ∧ o = frcObjs n s w m []) := by
  refine DCall_intro Tryz.func49 rfl Tryz.ntmps49 (by simp) rfl ?_
  simp only [isv, iv]
  have hs : True := trivial
  repeat' first | (with_reducible first | refine q01 ?_ | refine q11 ?_ | refine q17 ?_) | (with_reducible refine At.fn_ret (by simp -dsimp [hs]; exact rfl) ?_) | (with_reducible refine DT_regionE [0, 1, 2, 3, 4, 5, 6, 7, 8, 9, 10] ?_; simp -dsimp [hs]) | with_reducible refine And.intro ?_ ?_
  all_goals try simp -dsimp [hs]
  all_goals try clear hs
  · rfl
  · simp [frcObjs, frcCaps, encMB]
def frcAt (n : Notes) (s w : List Int) (m : Int) (i : Nat) : Bool := ((frcL s w m n.notes)[i]?).getD false
def ConsM (n : Notes) (s w : List Int) (m : Int) (M : List (Int × Bool)) : Prop := ∀ (k : Nat) (b : Bool), blook (k : Int) M = some b → frcAt n s w m k = b
theorem ConsM.nil (n : Notes) (s w : List Int) (m : Int) : ConsM n s w m [] := fun k b h => by cases h
theorem ConsM.put {n : Notes} {s w : List Int} {m : Int} {M : List (Int × Bool)} (h : ConsM n s w m M) (i : Nat) {b : Bool} (hb : frcAt n s w m i = b) : ConsM n s w m (bput (i : Int) b M) := fun k c hk => by
  rw [blook_bput] at hk
  split at hk
  · rename_i e
    obtain rfl : i = k := by omega
    cases hk; exact hb
  · exact h k c hk
theorem frcAt_eq {n : Notes} {s w : List Int} {m : Int} {i : Nat} (hi : i < n.notes.length) : frcAt n s w m i = (frcB s w m n.notes[i] && frcO n.notes[i].number (n.notes.drop (i + 1)) ((frcL s w m n.notes).drop (i + 1))) := by
  have hl : i < (frcL s w m n.notes).length := by rw [frcL_len]; exact hi
  rw [← frcL_at hi hl, frcAt, List.getElem?_eq_getElem hl]; rfl
theorem frcAt_step {n : Notes} {s w : List Int} {m a : Int} {k : Nat} (hk : k < n.notes.length) : frcO a (n.notes.drop k) ((frcL s w m n.notes).drop k) = (!(frcAt n s w m k && decide (n.notes[k].cancels = a)) && frcO a (n.notes.drop (k + 1)) ((frcL s w m n.notes).drop (k + 1))) := by
  have hl : k < (frcL s w m n.notes).length := by rw [frcL_len]; exact hk
  rw [frcO_step hk hl, frcAt, List.getElem?_eq_getElem hl]; rfl
set_option maxHeartbeats 4000000 in
theorem is_c (n : Notes) (s w : List Int) (m : Int) (hl : n.notes.length < 1000) (hsl : s.length < 1000) (hwl : w.length < 1000) : ∀ (d i : Nat), n.notes.length - i ≤ d → i < n.notes.length → ∀ M, ConsM n s w m M →
    DCall Tryz.prog G 97 (iv (i : Int) :: frcCaps.map .one) (frcObjs n s w m M) (fun r o => ∃ M', ConsM n s w m M' ∧ r = bv (frcAt n s w m i) ∧ o = frcObjs n s w m M') := by
  intro d
  induction d with
  | zero => intro i h1 h2; omega
  | succ d ih =>
    intro i hid hi M hM
    simp only [frcObjs, frcCaps, fileI, iv, bv, rI, List.map_cons, List.map_nil] at ih ⊢
    refine DCall.drop ?_
    refine DCall_intro Tryz.func97 rfl Tryz.ntmps97 (by simp) rfl ?_
    cases hb : blook (i : Int) M with
    | some b =>
      have hf := hM i b hb
      have hs : True := trivial
      repeat' first | (with_reducible first | refine q01 ?_ | refine q02 ?_ | refine q11 ?_ | refine q17 ?_) | (with_reducible refine At.fn_ret (by simp -dsimp [hb, hs]; exact rfl) ?_) | (with_reducible refine DT_regionE [0, 1, 2, 3, 4, 5, 6, 8, 9, 10, 11, 12, 13, 20, 67] ?_; simp -dsimp [hb, hs]) | (refine DT_cond rfl (fun h => ?_) (fun h => ?_) <;> (try simp only [nrm] at h) <;> (try exact Bool.noConfusion h))
      all_goals try simp -dsimp [hb, hs]
      all_goals try clear hs
      exact ⟨M, hM, by rw [hf], rfl⟩
    | none =>
      generalize hx : n.notes[i] = x at *
      have hF := frcAt_eq (s := s) (w := w) (m := m) hi
      rw [hx] at hF
      have hwi : IntKind.i64.wrap ((i : Int) + 1) = ((i + 1 : Nat) : Int) := i64w (by omega) (by omega)
      have c1 := contains_c (G := G) s x.number (by omega)
      have c2 := contains_c (G := G) w x.number (by omega)
      have c3 := in_note (G := G) x.frm x.to [m] (by simp)
      rw [show ([m].all fun z => decide (x.frm ≤ z) && decide (z ≤ x.to)) = (decide (x.frm ≤ m) && decide (m ≤ x.to)) by simp] at c3
      have hs : True := trivial
      repeat' first | (with_reducible first | refine q01 ?_ | refine q11 ?_ | refine q12 ?_ | refine q14 ?_) | (refine CallE.pure (c1) ?_; try simp -dsimp [hb, hx, hi, hwi, hs]) | (refine CallE.pure (c2) ?_; try simp -dsimp [hb, hx, hi, hwi, hs]) | (refine CallE.thaw (c3) ?_ ?_ ?_; (focus (simp; done)); (focus (simp; done)); try simp -dsimp [hb, hx, hi, hwi, hs]) | (with_reducible refine DT_regionE [0, 1, 2, 3, 4, 5, 6, 8, 9, 10, 11, 12, 13, 20, 67] ?_; simp -dsimp [hb, hx, hi, hwi, hs]) | (refine DT_cond rfl (fun h => ?_) (fun h => ?_) <;> (try simp only [nrm] at h) <;> (try exact Bool.noConfusion h)) | (with_reducible refine GStop_split ?_ ?_ <;> intro h <;> have h0 := h <;> (try simp only [nrm] at h) <;> (try exact Bool.noConfusion h) <;> have h2 := h <;> (try simp at h2) <;> (replace hs := And.intro h0 (And.intro h (And.intro h2 hs))) <;> simp -dsimp [h0, h, h2, hb, hx, hi, hwi, hs])
      all_goals try simp -dsimp [hb, hx, hi, hwi, hs]
      all_goals try clear hs
      all_goals
        refine DT_loop (ι := { p : Nat × Bool × List (Int × Bool) // i + 1 ≤ p.1 ∧ p.1 ≤ n.notes.length ∧ ConsM n s w m p.2.2 ∧ frcAt n s w m i = (p.2.1 && frcO x.number (n.notes.drop p.1) ((frcL s w m n.notes).drop p.1)) }) (fun p => ⟨92, [(0, iv (i : Int)), (1, .one (.ptr 5 0)), (2, .one (.ptr 0 0)), (3, .one (.ptr 1 0)), (4, .one (.ptr 2 0)), (5, .one (.ptr 3 0)), (6, .one (.ptr 6 0)), (11, .one (.ptr 7 0)), (12, bv p.1.2.1), (13, iv (p.1.1 : Int))], [.row [.im (.ip [.sl (n.reg.map encIssue), .sl (n.notes.map encNote), .sl ((nums n.reg).map encI), .sl ((isort (openL n.notes)).map encI)])], .row [.im (.sl (s.map encI))], .row [.im (.sl (w.map encI))], .row [.im (rI m)], .map [.int .i64] (encMB p.1.2.2), .row [.map 4], .row [.fn (.func 97) [.ptr 5 0, .ptr 0 0, .ptr 1 0, .ptr 2 0, .ptr 3 0, .ptr 6 0]], .row ((encNote x).map .im)]⟩) (fun p => n.notes.length - p.1.1) ⟨(i + 1, frcB s w m x, M), by simp, by simp; omega, hM, hF⟩ (Weak.of_drop [0,1,2,3,4,5,6,11,12,13] 8 (by simp) (by simp) (by clear c1 c2 c3 ih; simp [frcB, *])) ?_
      all_goals
        clear c1 c2 c3 hF hM hb
        rintro ⟨⟨k, v, M2⟩, hk1, hk2, hM2, hv⟩
        simp only at hk1 hk2 hM2 hv
        simp only [iv, bv]
        cases v
        · have hM3 := hM2.put i hv
          have hs : True := trivial
          repeat' first | (with_reducible first | refine q01 ?_ | refine q03 ?_ | refine q06 ?_ | refine q11 ?_ | refine q16 ?_ | refine q17 ?_) | (with_reducible refine At.fn_ret (by simp -dsimp [hs]; exact rfl) ?_) | (with_reducible refine DT_regionE [0, 1, 2, 3, 4, 5, 6, 8, 9, 10, 11, 12, 13, 20, 67] ?_; simp -dsimp [hs]) | (refine DT_cond rfl (fun h => ?_) (fun h => ?_) <;> (try simp only [nrm] at h) <;> (try exact Bool.noConfusion h))
          all_goals try simp -dsimp [hs]
          all_goals try clear hs
          all_goals exact ⟨_, hM3, by rw [hv]; rfl, rfl⟩
        · by_cases hlk : k < n.notes.length
          · have hwk : IntKind.i64.wrap ((k : Int) + 1) = ((k + 1 : Nat) : Int) := i64w (by omega) (by omega)
            have hih := ih k (by omega) hlk M2 hM2
            rw [Bool.true_and, frcAt_step hlk] at hv
            generalize hy : n.notes[k] = y at *
            by_cases hc : y.cancels = x.number
            · have hvb : ∀ b, frcAt n s w m k = b → frcAt n s w m i = (!b && frcO x.number (n.notes.drop (k + 1)) ((frcL s w m n.notes).drop (k + 1))) := fun b hb => by
                rw [hv, hb, decide_eq_true hc, Bool.and_true]
              have hs : True := trivial
              repeat' first | (with_reducible first | refine q01 ?_ | refine q04 ?_ | refine q11 ?_ | refine q12 ?_ | refine q14 ?_) | (refine CallE.embed_ex [0,1,2,3,4,5,6] (hih) ?_ ?_ ?_ ?_ ?_ ?_; (focus (simp [emb]; done)); (focus (simp; done)); (focus (simp; done)); (focus (simp; done)); (focus (refine emb_all ?_; simp [emb, embAll]; done)); intro mm hmm; try simp -dsimp [mergeO, emb, hx, hy, hlk, hwk, hc, hs]) | (refine DT_regionM (id := 9) (nt := 92) 15 [0, 1, 2, 3, 4, 5, 6, 8, 9, 10, 11, 12, 13, 20, 67] mixed rfl (by kernel_rfl) ?_; simp -dsimp [hx, hy, hlk, hwk, hc, hs]) | (with_reducible refine DT_regionE [0, 1, 2, 3, 4, 5, 6, 8, 9, 10, 11, 12, 13, 20, 67] ?_; simp -dsimp [hx, hy, hlk, hwk, hc, hs]) | (refine DT_cond rfl (fun h => ?_) (fun h => ?_) <;> (try simp only [nrm] at h) <;> (try exact Bool.noConfusion h))
              all_goals try simp -dsimp [hx, hy, hlk, hwk, hc, hs]
              all_goals try clear hs
              all_goals exact At.round ⟨(k + 1, !frcAt n s w m k, mm), by simp only; omega, by simp only; omega, hmm, hvb _ rfl⟩ (by simp only; omega) (Weak.of_drop [0,1,2,3,4,5,6,11,12,13] 8 (by simp) (by simp) (by simp))
            · rw [decide_eq_false hc, Bool.and_false, Bool.not_false, Bool.true_and] at hv
              have hs : True := trivial
              repeat' first | (with_reducible first | refine q01 ?_ | refine q04 ?_ | refine q11 ?_ | refine q12 ?_ | refine q14 ?_) | (refine DT_regionM (id := 9) (nt := 92) 15 [0, 1, 2, 3, 4, 5, 6, 8, 9, 10, 11, 12, 13, 20, 67] mixed rfl (by kernel_rfl) ?_; simp -dsimp [hx, hy, hlk, hwk, hc, hs]) | (with_reducible refine DT_regionE [0, 1, 2, 3, 4, 5, 6, 8, 9, 10, 11, 12, 13, 20, 67] ?_; simp -dsimp [hx, hy, hlk, hwk, hc, hs]) | (refine DT_cond rfl (fun h => ?_) (fun h => ?_) <;> (try simp only [nrm] at h) <;> (try exact Bool.noConfusion h))
              all_goals try simp -dsimp [hx, hy, hlk, hwk, hc, hs]
              all_goals try clear hs
              all_goals exact At.round ⟨(k + 1, true, M2), by simp only; omega, by simp only; omega, hM2, by rw [hv, Bool.true_and]⟩ (by simp only; omega) (Weak.of_drop [0,1,2,3,4,5,6,11,12,13] 8 (by simp) (by simp) (by simp))
          · rw [frcO_end (by omega), Bool.and_true] at hv
            have hM3 := hM2.put i hv
            have hs : True := trivial
            repeat' first | (with_reducible first | refine q01 ?_ | refine q03 ?_ | refine q06 ?_ | refine q11 ?_ | refine q16 ?_ | refine q17 ?_) | (with_reducible refine At.fn_ret (by simp -dsimp [hlk, hs]; exact rfl) ?_) | (with_reducible refine DT_regionE [0, 1, 2, 3, 4, 5, 6, 8, 9, 10, 11, 12, 13, 20, 67] ?_; simp -dsimp [hlk, hs]) | (refine DT_cond rfl (fun h => ?_) (fun h => ?_) <;> (try simp only [nrm] at h) <;> (try exact Bool.noConfusion h))
            all_goals try simp -dsimp [hlk, hs]
            all_goals try clear hs
            all_goals exact ⟨_, hM3, by rw [hv], rfl⟩
end Go.Proofs
