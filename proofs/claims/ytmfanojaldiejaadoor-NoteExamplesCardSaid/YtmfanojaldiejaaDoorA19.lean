/- Part 19 of the proofs: laws and walks that hold without conditions beyond those that each theorem names. -/
import Derived.Test.YtmfanojaldiejaaDoorA12
import Derived.Test.YtmfanojaldiejaaDoorA15
import Derived.Test.YtmfanojaldiejaaDoorA16
import Derived.Test.YtmfanojaldiejaaDoorA17
import Derived.Test.YtmfanojaldiejaaDoorA18
set_option linter.all false
set_option linter.deprecated false
namespace Go.Proofs
open Go Go.Ab
set_option linter.unusedSimpArgs false
variable {G : Nat → Option (List IC)}
def befN (y x : Note) : Bool := decide (y.day < x.day) || decide (y.day = x.day) && decide (y.number < x.number)
def nk8 (l : List Note) (i : Nat) (x : Note) : Bool := if i = 0 then true else match l[i - 1]? with | some y => befN y x | none => false
theorem or_cmp (y x : Note) : decide (orI [cmpI y.day x.day, cmpI y.number x.number] < 0) = befN y x := by
  unfold befN cmpI orI orI orI
  rw [Bool.eq_iff_iff]
  simp only [decide_eq_true_eq, Bool.or_eq_true, Bool.and_eq_true]
  repeat' split
  all_goals omega
set_option maxHeartbeats 1000000 in
theorem nk8_c (n : Notes) (i : Nat) (x : Note) (hx : n.notes[i]? = some x) (hl : n.notes.length < 1000) (objs : List DObj) : DCall Tryd.prog G 123 [notesv n, iv (i : Int)] objs (fun rr objs' => rr = bv (nk8 n.notes i x) ∧ objs' = objs) := by
  refine DCall.frame ?_ (by simp) (by simp) objs
  refine DCall_intro Tryd.func123 rfl Tryd.ntmps123 (by simp) rfl ?_
  try simp only [notesv, iv]
  have hi : i < n.notes.length := lt_of_getElem? hx
  have hxe : n.notes[i] = x := (List.getElem?_eq_some_iff.1 hx).2
  by_cases h00 : i = 0
  · subst h00
    have hs : True := trivial
    repeat' first | (with_reducible first | refine q01 ?_ | refine q11 ?_ | refine q17 ?_) | (with_reducible refine At.fn_ret (by simp -dsimp [hxe, hi, hs]; exact rfl) ?_) | (refine DT_regionM (id := 1) (nt := 40) 36 [0,1,2,4] mixed rfl (by kernel_rfl) ?_; simp -dsimp [hxe, hi, hs]) | (with_reducible refine DT_regionE [0,1,2,4] ?_; simp -dsimp [hxe, hi, hs])
    all_goals try simp -dsimp [hxe, hi, hs]
    all_goals try clear hs
    all_goals simp [nk8]
  · have hi1 : i - 1 < n.notes.length := by omega
    have hw : IntKind.i64.wrap ((i : Int) - 1) = ((i - 1 : Nat) : Int) := by rw [i64w (by omega) (by omega)]; omega
    have hne : ((i : Int) = 0) = False := by simp [h00]
    generalize hy : n.notes[i - 1] = y
    have c1 := compare_c (G := G) y.day x.day
    have c2 := compare_c (G := G) y.number x.number
    have c3 := or_c (G := G) [cmpI y.day x.day, cmpI y.number x.number] (by simp)
    have hs : True := trivial
    repeat' first | (with_reducible first | refine q01 ?_ | refine q11 ?_ | refine q17 ?_) | (with_reducible refine At.fn_ret (by simp -dsimp [hxe, hi, hi1, hw, hne, hy, h00, hs]; exact rfl) ?_) | (refine QCall_pure (c1) ?_; try simp -dsimp [hxe, hi, hi1, hw, hne, hy, h00, hs]) | (refine QCall_pure (c2) ?_; try simp -dsimp [hxe, hi, hi1, hw, hne, hy, h00, hs]) | (refine QCall_pure (c3) ?_; try simp -dsimp [hxe, hi, hi1, hw, hne, hy, h00, hs]) | (refine DT_regionM (id := 1) (nt := 40) 36 [0,1,2,4] mixed rfl (by kernel_rfl) ?_; simp -dsimp [hxe, hi, hi1, hw, hne, hy, h00, hs]) | (with_reducible refine DT_regionE [0,1,2,4] ?_; simp -dsimp [hxe, hi, hi1, hw, hne, hy, h00, hs])
    all_goals try simp -dsimp [hxe, hi, hi1, hw, hne, hy, h00, hs]
    all_goals try clear hs
    rw [or_cmp, nk8, if_neg h00, List.getElem?_eq_getElem hi1, hy]
def nk4 (l : List Issue) (x : Note) : Bool := if x.drawing = 0 ∧ x.letter = 0 then decide (x.cancels ≠ 0) else decide (atE l x.drawing x.letter = 0)
theorem nk4_c (n : Notes) (i : Nat) (x : Note) (hx : n.notes[i]? = some x) (hG : sheetG G) (hs : SmallR n.reg) (objs : List DObj) : DCall Tryd.prog G 115 [notesv n, iv (i : Int)] objs (fun rr objs' => rr = bv (nk4 n.reg x) ∧ objs' = objs) := by
  refine DCall.frame ?_ (by simp) (by simp) objs
  refine DCall_intro Tryd.func115 rfl Tryd.ntmps115 (by simp) rfl ?_
  try simp only [notesv, iv]
  have hi : i < n.notes.length := lt_of_getElem? hx
  have hxe : n.notes[i] = x := (List.getElem?_eq_some_iff.1 hx).2
  have c1 := at_c (G := G) n.reg x.drawing x.letter hG hs
  simp only [refv] at c1
  have hs : True := trivial
  repeat' first | (with_reducible first | refine q01 ?_ | refine q02 ?_ | refine q11 ?_ | refine q14 ?_ | refine q17 ?_) | (with_reducible refine At.fn_ret (by simp -dsimp [hxe, hi, hs]; exact rfl) ?_) | (refine CallE.pure (c1) ?_; try simp -dsimp [hxe, hi, hs]) | (with_reducible refine DT_regionE [0,1,2,4,5,7,19] ?_; simp -dsimp [hxe, hi, hs]) | (refine DT_cond rfl (fun h => ?_) (fun h => ?_) <;> (try simp only [nrm] at h) <;> (try exact Bool.noConfusion h))
  all_goals try simp -dsimp [hxe, hi, hs]
  all_goals try clear hs
  · have h1 : x.drawing = 0 ∧ x.letter = 0 := ⟨h.1.symm, h.2.symm⟩
    rw [nk4, if_pos h1]; simp
  · rw [nk4, if_neg (by omega)]
end Go.Proofs
namespace Go.Proofs
open Go Go.Ab
set_option linter.unusedSimpArgs false
variable {G : Nat → Option (List IC)}
theorem indexS_c (l : List Int) (n : Int) (hl : l.length < 1000000) (objs : List DObj) : DCall Tryd.prog G 54 [isv l, iv n] objs (fun rr objs' => rr = iv (fidx (fun x => decide (n = x)) l) ∧ objs' = objs) := by
  refine DCall.frame ?_ (by simp) (by simp) objs
  refine DCall_intro Tryd.func54 rfl Tryd.ntmps54 (by simp) rfl ?_
  try simp only [isv, iv]
  have hs : True := trivial
  repeat' first | (with_reducible first | refine q01 ?_ | refine q11 ?_ | refine q12 ?_) | (with_reducible refine DT_regionE [0,1,4,5,7,8,9,16] ?_; simp -dsimp [hs])
  all_goals try simp -dsimp [hs]
  all_goals try clear hs
  refine DT_loop (ι := { k : Nat // k ≤ l.length ∧ ∀ j x, j < k → l[j]? = some x → decide (n = x) = false }) (fun i => ⟨19, [(0, isv l), (1, iv n), (7, iv (l.length : Int)), (8, iv (i.1 : Int))], []⟩) (fun i => l.length - i.1) ⟨0, by simp⟩ (Weak.of_keep [0,1,7,8] (by simp)) ?_
  rintro ⟨i, hi, hno⟩
  simp only [iv, isv]
  by_cases hlt : i < l.length
  · have hx0 : l[i]? = some l[i] := by simp [hlt]
    have hw : IntKind.i64.wrap ((i : Int) + 1) = ((i + 1 : Nat) : Int) := i64w (by omega) (by omega)
    generalize hx : l[i] = x at *
    have hs : True := trivial
    repeat' first | (with_reducible first | refine q01 ?_ | refine q02 ?_ | refine q04 ?_ | refine q05 ?_ | refine q11 ?_ | refine q12 ?_ | refine q14 ?_ | refine q17 ?_) | (with_reducible refine At.fn_ret (by simp -dsimp [hx, hw, hlt, hs]; exact rfl) ?_) | (with_reducible refine DT_regionE [0,1,4,5,7,8,9,16] ?_; simp -dsimp [hx, hw, hlt, hs]) | (refine DT_cond rfl (fun h => ?_) (fun h => ?_) <;> (try simp only [nrm] at h) <;> (try exact Bool.noConfusion h))
    all_goals try simp -dsimp [hx, hw, hlt, hs]
    all_goals try clear hs
    · exact (fidx_yes hx0 (by simp; assumption) hno).symm
    · exact At.round ⟨i + 1, by omega, fun j y hj hjx => by
        by_cases e : j = i
        · subst e; rw [hx0] at hjx; cases hjx; simp; assumption
        · exact hno j y (by omega) hjx⟩ (by simp; omega) (Weak.of_keep [0,1,7,8] (by simp))
  · have hs : True := trivial
    repeat' first | (with_reducible first | refine q01 ?_ | refine q03 ?_ | refine q06 ?_ | refine q11 ?_ | refine q16 ?_ | refine q17 ?_) | (with_reducible refine At.fn_ret (by simp -dsimp [hlt, hs]; exact rfl) ?_) | (with_reducible refine DT_regionE [0,1,4,5,7,8,9,16] ?_; simp -dsimp [hlt, hs]) | (refine DT_cond rfl (fun h => ?_) (fun h => ?_) <;> (try simp only [nrm] at h) <;> (try exact Bool.noConfusion h))
    all_goals try simp -dsimp [hlt, hs]
    all_goals try clear hs
    exact (fidx_no fun j x hjx => hno j x (by have := lt_of_getElem? hjx; omega) hjx).symm
theorem contains_c (l : List Int) (n : Int) (hl : l.length < 1000000) (objs : List DObj) : DCall Tryd.prog G 37 [isv l, iv n] objs (fun rr objs' => rr = bv (decide (n ∈ l)) ∧ objs' = objs) := by
  refine DCall.frame ?_ (by simp) (by simp) objs
  refine DCall_intro Tryd.func37 rfl Tryd.ntmps37 (by simp) rfl ?_
  try simp only [isv, iv]
  have hc := indexS_c (G := G) l n hl
  have hs : True := trivial
  repeat' first | (with_reducible first | refine q01 ?_ | refine q11 ?_ | refine q17 ?_) | (with_reducible refine At.fn_ret (by simp -dsimp [hs]; exact rfl) ?_) | (refine CallE.pure (hc) ?_; try simp -dsimp [hs]) | (with_reducible refine DT_regionE [0,1,4] ?_; simp -dsimp [hs])
  all_goals try simp -dsimp [hs]
  all_goals try clear hs
  have h1 := fidx_nonneg (fun x => decide (n = x)) l
  rw [← decide_eq_true_iff (p := 0 ≤ _), h1]
  simp
end Go.Proofs
namespace Go.Proofs
open Go Go.Ab
def nkA (n : Notes) (i : Nat) (x : Note) : Bool := nk1 x && nk2 x && nk3 x && nk4 n.reg x && nk5 x && nk6 n.notes i x && nk7 n.notes i x && nk8 n.notes i x
def nkI (n : Notes) (i : Nat) (x : Note) : Nat → Bool
  | 0 => nk1 x
  | 1 => nk2 x
  | 2 => nk3 x
  | 3 => nk4 n.reg x
  | 4 => nk5 x
  | 5 => nk6 n.notes i x
  | 6 => nk7 n.notes i x
  | _ => nk8 n.notes i x
theorem nkI_bad {n : Notes} {i : Nat} {x : Note} {k : Nat} (h : nkI n i x k = false) : nkA n i x = false := by
  unfold nkA
  match k with
  | 0 | 1 | 2 | 3 | 4 | 5 | 6 => simp only [nkI] at h; simp [h]
  | k + 7 => simp only [nkI] at h; simp [h]
theorem nkI_all {n : Notes} {i : Nat} {x : Note} (h : ∀ k < 8, nkI n i x k = true) : nkA n i x = true := by
  have h0 := h 0 (by omega); have h1 := h 1 (by omega); have h2 := h 2 (by omega); have h3 := h 3 (by omega)
  have h4 := h 4 (by omega); have h5 := h 5 (by omega); have h6 := h 6 (by omega); have h7 := h 7 (by omega)
  simp only [nkI] at h0 h1 h2 h3 h4 h5 h6 h7
  simp [nkA, h0, h1, h2, h3, h4, h5, h6, h7]
def openL (l : List Note) : List Int := (l.filter fun x => decide (x.signed = 1)).map (·.number)
theorem openL_snoc (l : List Note) (k : Nat) (h : k < l.length) : openL (l.take (k + 1)) = openL (l.take k) ++ (if l[k].signed = 1 then [l[k].number] else []) := by
  unfold openL
  rw [List.take_succ_eq_append_getElem h, List.filter_append, List.map_append]
  congr 1
  by_cases e : l[k].signed = 1 <;> simp [e]
theorem openL_len (l : List Note) : (openL l).length ≤ l.length := by
  unfold openL; rw [List.length_map]; exact List.length_filter_le _ _
def allOk (n : Notes) : Prop := ∀ (i : Nat) (x : Note), n.notes[i]? = some x → nkA n i x = true
def notesB (n : Notes) : Bool := decide (n.notes.length ≤ 12) && (List.range n.notes.length).all (fun i => match n.notes[i]? with | some x => nkA n i x | none => true) && decide ((openL n.notes).length ≤ 5)
def notesE (n : Notes) : Int := if checkR n.reg ≠ 0 then checkR n.reg else if notesB n then 0 else 30
theorem notesB_iff {n : Notes} : notesB n = true ↔ n.notes.length ≤ 12 ∧ allOk n ∧ (openL n.notes).length ≤ 5 := by
  simp only [notesB, Bool.and_eq_true, decide_eq_true_eq, List.all_eq_true, List.mem_range, and_assoc]
  refine and_congr_right fun _ => and_congr_left fun _ => ⟨fun h i x hx => ?_, fun h i hi => ?_⟩
  · have := h i (List.getElem?_eq_some_iff.1 hx).1
    rw [hx] at this; exact this
  · rw [List.getElem?_eq_getElem hi]
    exact h i _ (List.getElem?_eq_getElem hi)
theorem nums_nodup {n : Notes} (h : allOk n) : (n.notes.map (·.number)).Nodup := by
  rw [List.nodup_iff_pairwise_ne, List.pairwise_iff_getElem]
  intro i j hi hj hij
  simp only [List.length_map] at hi hj
  simp only [List.getElem_map]
  have h1 := h j _ (List.getElem?_eq_getElem hj)
  simp only [nkA, Bool.and_eq_true, nk7, Bool.not_eq_true', List.any_eq_false, decide_eq_true_eq] at h1
  refine h1.1.2 _ (List.mem_iff_getElem.2 ⟨i, by simp; omega, ?_⟩)
  simp
theorem openL_nodup {n : Notes} (h : allOk n) : (openL n.notes).Nodup := by
  have := nums_nodup h
  unfold openL
  exact this.sublist ((List.filter_sublist).map _)
def truthP (o s : List Int) : Prop := ∀ (i : Nat) (v : Int), s[i]? = some v → v ∈ o ∧ ∀ j u, i = j + 1 → s[j]? = some u → u < v
def truthAt (o s : List Int) (v : Int) : Nat → Bool
  | 0 => decide (v ∈ o)
  | j + 1 => decide (v ∈ o) && (match s[j]? with | some u => decide (u < v) | none => true)
def truthB (o s : List Int) : Bool := (List.range s.length).all fun i => match s[i]? with | some v => truthAt o s v i | none => true
theorem truthB_iff {o s : List Int} : truthB o s = true ↔ truthP o s := by
  simp only [truthB, List.all_eq_true, List.mem_range]
  constructor
  · intro h i v hv
    have h1 := h i (List.getElem?_eq_some_iff.1 hv).1
    rw [hv] at h1
    simp only at h1
    cases i with
    | zero =>
      simp only [truthAt, decide_eq_true_eq] at h1
      exact ⟨h1, fun j u e => by omega⟩
    | succ i =>
      simp only [truthAt, decide_eq_true_eq, Bool.and_eq_true] at h1
      refine ⟨h1.1, fun j u e hu => ?_⟩
      obtain rfl : j = i := by omega
      rw [hu] at h1; simpa using h1.2
  · intro h i hi
    rw [List.getElem?_eq_getElem hi]
    simp only
    obtain ⟨h1, h2⟩ := h i _ (List.getElem?_eq_getElem hi)
    cases i with
    | zero => simpa only [truthAt, decide_eq_true_eq] using h1
    | succ i =>
      have hj : i < s.length := by omega
      simp only [truthAt, List.getElem?_eq_getElem hj, Bool.and_eq_true, decide_eq_true_eq]
      exact ⟨h1, h2 i _ rfl (List.getElem?_eq_getElem hj)⟩
theorem truth_bad {o s : List Int} {i : Nat} {v : Int} (h : s[i]? = some v) (hb : v ∉ o ∨ ∃ j u, i = j + 1 ∧ s[j]? = some u ∧ v ≤ u) : truthB o s = false := by
  rw [← Bool.not_eq_true, truthB_iff]
  intro ht
  obtain ⟨h1, h2⟩ := ht i v h
  rcases hb with hb | ⟨j, u, e, hu, hle⟩
  · exact hb h1
  · have := h2 j u e hu; omega
theorem truth_good {o s : List Int} (h : truthP o s) : truthB o s = true := truthB_iff.2 h
def truthTo (o s : List Int) (k : Nat) : Prop := ∀ (i : Nat) (v : Int), i < k → s[i]? = some v → v ∈ o ∧ ∀ j u, i = j + 1 → s[j]? = some u → u < v
theorem truthTo_step {o s : List Int} {k : Nat} {v : Int} (h : truthTo o s k) (hv : s[k]? = some v) (ho : v ∈ o) (hl : ∀ j u, k = j + 1 → s[j]? = some u → u < v) : truthTo o s (k + 1) := by
  intro i w hi hw
  by_cases e : i = k
  · subst e; rw [hv] at hw; cases hw; exact ⟨ho, hl⟩
  · exact h i w (by omega) hw
theorem truthTo_all {o s : List Int} (h : truthTo o s s.length) : truthP o s := fun i v hv => h i v (List.getElem?_eq_some_iff.1 hv).1 hv
theorem truthTo_lt {o s : List Int} {k : Nat} (h : truthTo o s k) : ∀ (j i : Nat) (u v : Int), i < j → j < k → s[i]? = some u → s[j]? = some v → u < v
  | 0, _, _, _, h1, _, _, _ => by omega
  | j + 1, i, u, v, h1, h2, h3, h4 => by
    have hj : j < s.length := by have := (List.getElem?_eq_some_iff.1 h4).1; omega
    have hw : s[j]? = some s[j] := List.getElem?_eq_getElem hj
    have h5 := (h (j + 1) v h2 h4).2 j s[j] rfl hw
    by_cases e : i = j
    · subst e; rw [hw] at h3; cases h3; exact h5
    · have := truthTo_lt h j i u s[j] (by omega) (by omega) h3 hw; omega
theorem truthTo_new {o s : List Int} {k : Nat} {v : Int} (h : truthTo o s (k + 1)) (hk : k < s.length) (hv : s[k] < v) : v ∉ s.take (k + 1) := by
  intro hm
  obtain ⟨i, hi, e⟩ := List.mem_take_iff_getElem.1 hm
  by_cases he : i = k
  · subst he; omega
  · have := truthTo_lt h k i s[i] s[k] (by omega) (by omega) (List.getElem?_eq_getElem _) (List.getElem?_eq_getElem _); omega
end Go.Proofs
namespace Go.Proofs
open Go Go.Ab
set_option linter.unusedSimpArgs false
variable {G : Nat → Option (List IC)}
def SmallN (n : Notes) : Prop := Small n.reg ∧ n.notes.length ≤ 16
end Go.Proofs
namespace Go.Ab
open Go
def encB (b : Bool) : List IC := [rB b]
def bsv (l : List Bool) : DV := .one (.im (.sl (l.map encB)))
attribute [simp] encB bsv
def byK (l : List Note) (b : List Bool) (d : Int) : Nat → Int
  | 0 => -1
  | k + 1 => if b[k]? = some true ∧ (l[k]?.map (·.drawing)) = some d then (k : Int) else byK l b d k
theorem byK_lt (l : List Note) (b : List Bool) (d : Int) : ∀ k, -1 ≤ byK l b d k ∧ byK l b d k < k
  | 0 => by simp [byK]
  | k + 1 => by
    have := byK_lt l b d k
    unfold byK
    split <;> omega
def letterK (l : List Note) (b : List Bool) (d : Int) : Int := if byK l b d b.length < 0 then 1 else match l[(byK l b d b.length).toNat]? with | some x => x.letter | none => 0
end Go.Ab
namespace Go.Proofs
open Go Go.Ab
set_option linter.unusedSimpArgs false
variable {G : Nat → Option (List IC)}
end Go.Proofs
namespace Go.Proofs
open Go Go.Ab
set_option linter.unusedSimpArgs false
variable {G : Nat → Option (List IC)}
end Go.Proofs
namespace Go.Ab
open Go
def frcB (signed without : List Int) (m : Int) (x : Note) : Bool := (decide (x.signed = 2) || decide (x.number ∈ signed)) && !decide (x.number ∈ without) && (decide (x.frm ≤ m) && decide (m ≤ x.to))
def frcO (n : Int) : List Note → List Bool → Bool
  | y :: l, b :: o => !(b && decide (y.cancels = n)) && frcO n l o
  | _, _ => true
def frcL (signed without : List Int) (m : Int) : List Note → List Bool
  | [] => []
  | x :: r => (frcB signed without m x && frcO x.number r (frcL signed without m r)) :: frcL signed without m r
theorem frcL_len (signed without : List Int) (m : Int) : ∀ l, (frcL signed without m l).length = l.length
  | [] => rfl
  | x :: r => by simp [frcL, frcL_len signed without m r]
@[simp] theorem ims_setB (L : List Bool) (k : Nat) (v : Bool) : (ims (L.map encB)).set k [DC.im (.raw (.bool v))] = ims ((L.set k v).map encB) := by
  simp only [ims, List.map_set, encB, rB, List.map_cons, List.map_nil]
@[simp] theorem ims_getB (L : List Bool) (k : Nat) (h : k < (ims (L.map encB)).length) : (ims (L.map encB))[k] = [DC.im (.raw (.bool (L[k]'(by simpa [ims_length] using h))))] := by
  simp [ims]
end Go.Ab
namespace Go.Proofs
open Go Go.Ab
set_option linter.unusedSimpArgs false
variable {G : Nat → Option (List IC)}
end Go.Proofs
namespace Go.Proofs
open Go Go.Ab
set_option linter.unusedSimpArgs false
variable {G : Nat → Option (List IC)}
end Go.Proofs
namespace Go.Proofs
open Go Go.Ab
set_option linter.unusedSimpArgs false
variable {G : Nat → Option (List IC)}
def NSm (n : Notes) : Prop := SmallR n.reg ∧ n.notes.length ≤ 16 ∧ ∀ x ∈ n.notes, 0 ≤ x.ways ∧ x.ways ≤ 255 ∧ 0 ≤ x.signed ∧ x.signed ≤ 255
end Go.Proofs
namespace Go.Ab
open Go
def isort (l : List Int) : List Int := l.mergeSort fun x y => decide (x ≤ y)
theorem isort_len (l : List Int) : (isort l).length = l.length := by simp [isort]
end Go.Ab
namespace Go.Proofs
open Go Go.Ab
def numAt (l : List Note) (i : Nat) : Int := ((l[i]?).map (·.number)).getD 0
def opAt (l : List Note) (i : Nat) : Bool := match l[i]? with | some x => decide (x.signed = 1) | none => false
structure OpenTo (l : List Note) (k : Nat) (S : List Nat) : Prop where
  perm : S.Perm ((List.range k).filter (opAt l))
  srt : S.Pairwise fun a b => numAt l a ≤ numAt l b
theorem OpenTo.nil (l : List Note) : OpenTo l 0 [] := ⟨by simp, by simp⟩
theorem OpenTo.lt {l : List Note} {k : Nat} {S : List Nat} (h : OpenTo l k S) : ∀ i ∈ S, i < k ∧ opAt l i = true := fun i hi => by
  have := h.perm.mem_iff.1 hi
  simpa using this
theorem OpenTo.len {l : List Note} {k : Nat} {S : List Nat} (h : OpenTo l k S) : S.length ≤ k := by
  rw [h.perm.length_eq]
  have := List.length_filter_le (opAt l) (List.range k)
  simpa using this
theorem OpenTo.skip {l : List Note} {k : Nat} {S : List Nat} (h : OpenTo l k S) (hk : opAt l k = false) : OpenTo l (k + 1) S :=
  ⟨by rw [List.range_succ, List.filter_append]; simpa [hk] using h.perm, h.srt⟩
theorem OpenTo.put {l : List Note} {k : Nat} {S : List Nat} (h : OpenTo l k S) (hk : opAt l k = true) (q : Nat)
    (h1 : ∀ i ∈ S.take q, numAt l i ≤ numAt l k) (h2 : ∀ i ∈ S.drop q, numAt l k ≤ numAt l i) : OpenTo l (k + 1) (S.take q ++ k :: S.drop q) := by
  constructor
  · rw [List.range_succ, List.filter_append]
    simp only [List.filter_cons, hk, if_true, List.filter_nil]
    refine List.perm_middle.trans ?_
    rw [List.take_append_drop]
    exact (List.perm_append_singleton k _).symm.trans (List.Perm.append_right _ h.perm)
  · have h3 := h.srt
    rw [← List.take_append_drop q S, List.pairwise_append] at h3
    obtain ⟨p1, p2, p3⟩ := h3
    rw [List.pairwise_append, List.pairwise_cons]
    refine ⟨p1, ⟨h2, p2⟩, fun a ha b hb => ?_⟩
    rcases List.mem_cons.1 hb with rfl | hb
    · exact h1 a ha
    · exact p3 a ha b hb
theorem OpenTo.first {l : List Note} {k : Nat} {S : List Nat} (h : OpenTo l k S) {q : Nat} (hq : q < S.length) {v : Int} (hv : numAt l S[q] ≤ v) : ∀ i ∈ S.take (q + 1), numAt l i ≤ v := fun i hi => by
  obtain ⟨j, hj, e⟩ := List.mem_take_iff_getElem.1 hi
  have h3 := List.pairwise_iff_getElem.1 h.srt
  by_cases he : j = q
  · subst he; rw [← e]; exact hv
  · have := h3 j q (by omega) hq (by omega)
    rw [e] at this; omega
theorem filter_range (l : List Note) : ∀ k, k ≤ l.length → ((List.range k).filter (opAt l)).map (numAt l) = openL (l.take k)
  | 0, _ => by simp [openL]
  | k + 1, h => by
    have hk : k < l.length := by omega
    rw [List.range_succ, List.filter_append, List.map_append, filter_range l k (by omega), openL_snoc l k hk]
    congr 1
    have e : l[k]? = some l[k] := by simp [hk]
    by_cases h1 : l[k].signed = 1
    · simp [opAt, e, h1, numAt]
    · simp [opAt, e, h1]
theorem OpenTo.nums {l : List Note} {S : List Nat} (h : OpenTo l l.length S) : S.map (numAt l) = isort (openL l) := by
  have h1 : (S.map (numAt l)).Perm (isort (openL l)) := by
    refine (h.perm.map _).trans ?_
    rw [filter_range l _ (Nat.le_refl _), List.take_length]
    exact (List.mergeSort_perm _ _).symm
  refine h1.eq_of_pairwise (le := (· ≤ ·)) (fun a b _ _ h2 h3 => by omega) (by rw [List.pairwise_map]; exact h.srt) ?_
  have := List.pairwise_mergeSort (le := fun x y : Int => decide (x ≤ y)) (fun a b c h1 h2 => by simp at *; omega) (fun a b => by simp; omega) (openL l)
  exact this.imp fun h => by simpa using h
theorem isort_mem {l : List Int} {n : Int} : n ∈ isort l ↔ n ∈ l := (List.mergeSort_perm l _).mem_iff
theorem isort_nodup {l : List Int} (h : l.Nodup) : (isort l).Nodup := (List.mergeSort_perm l _).nodup_iff.2 h
theorem isort_sorted (l : List Int) : (isort l).Pairwise (· ≤ ·) := by
  have := List.pairwise_mergeSort (le := fun x y : Int => decide (x ≤ y)) (fun a b c h1 h2 => by simp at *; omega) (fun a b => by simp; omega) l
  exact this.imp fun h => by simpa using h
theorem frcL_drop' (signed without : List Int) (m : Int) : ∀ (l : List Note) (k : Nat), (frcL signed without m l).drop k = frcL signed without m (l.drop k)
  | _, 0 => rfl
  | [], _ + 1 => rfl
  | x :: r, k + 1 => by simp [frcL, frcL_drop' signed without m r k]
theorem frcL_at {s w : List Int} {m : Int} {l : List Note} {k : Nat} (hk : k < l.length) (hk' : k < (frcL s w m l).length) : (frcL s w m l)[k] = (frcB s w m l[k] && frcO l[k].number (l.drop (k + 1)) ((frcL s w m l).drop (k + 1))) := by
  have h1 := frcL_drop' s w m l k
  rw [List.drop_eq_getElem_cons hk, List.drop_eq_getElem_cons hk', frcL] at h1
  rw [frcL_drop']
  exact (List.cons.inj h1).1
theorem frcO_step {n : Int} {l : List Note} {F : List Bool} {k : Nat} (hk : k < l.length) (hf : k < F.length) : frcO n (l.drop k) (F.drop k) = (!(F[k] && decide (l[k].cancels = n)) && frcO n (l.drop (k + 1)) (F.drop (k + 1))) := by
  rw [List.drop_eq_getElem_cons hk, List.drop_eq_getElem_cons hf, frcO]
theorem frcO_end {n : Int} {l : List Note} {F : List Bool} {k : Nat} (hk : l.length ≤ k) : frcO n (l.drop k) (F.drop k) = true := by
  rw [List.drop_eq_nil_of_le hk]; rfl
def inT (l : List Note) (F : List Bool) (k : Nat) : List Int := (((l.zip F).take k).filter (·.2)).map (·.1.number)
theorem inT_zero (l : List Note) (F : List Bool) : inT l F 0 = [] := by simp [inT]
theorem inT_succ {l : List Note} {F : List Bool} {k : Nat} (hk : k < l.length) (hf : k < F.length) : inT l F (k + 1) = inT l F k ++ (if F[k] = true then [l[k].number] else []) := by
  unfold inT
  rw [List.take_succ_eq_append_getElem (by simp; omega), List.filter_append, List.map_append]
  congr 1
  rw [List.getElem_zip]
  by_cases e : F[k] = true <;> simp [e]
theorem inT_len (l : List Note) (F : List Bool) (k : Nat) : (inT l F k).length ≤ k := by
  unfold inT
  rw [List.length_map]
  refine Nat.le_trans (List.length_filter_le _ _) ?_
  rw [List.length_take]; omega
def note1 : Note := ⟨0, 0, 0, 0, 1, 0, 0, 0, false, 0⟩
def byN (l : List Note) (b : List Bool) (d : Int) : Nat → Note
  | 0 => note1
  | k + 1 => match l[k]? with
    | some x => if b[k]? = some true ∧ x.drawing = d then x else byN l b d k
    | none => note1
theorem byN_K (l : List Note) (b : List Bool) (d : Int) : ∀ k, k ≤ l.length → byN l b d k = if byK l b d k < 0 then note1 else match l[(byK l b d k).toNat]? with | some x => x | none => note1
  | 0, _ => by simp [byN, byK]
  | k + 1, h => by
    have hk : k < l.length := by omega
    have e : l[k]? = some l[k] := by simp [hk]
    simp only [byN, byK, e, Option.map_some, Option.some.injEq]
    split
    · rw [if_neg (by omega)]; simp [e]
    · exact byN_K l b d k (by omega)
end Go.Proofs
namespace Go.Proofs
open Go Go.Ab
end Go.Proofs
namespace Go.Ab
open Go
def encMB (m : List (Int × Bool)) : List (List Value × List DC) := m.map fun p => (kI p.1, [.im (rB p.2)])
def blook (n : Int) : List (Int × Bool) → Option Bool
  | [] => none
  | p :: r => if p.1 = n then some p.2 else blook n r
def bput (n : Int) (v : Bool) : List (Int × Bool) → List (Int × Bool)
  | [] => [(n, v)]
  | p :: r => if p.1 = n then (n, v) :: r else p :: bput n v r
theorem blook_bput (n k : Int) (v : Bool) : ∀ m, blook k (bput n v m) = if n = k then some v else blook k m
  | [] => by simp [bput, blook]
  | p :: r => by
    have ih := blook_bput n k v r
    simp only [bput]
    split
    · rename_i h
      simp only [blook]
      split
      · rfl
      · rename_i h2
        rw [if_neg (by omega)]
    · rename_i h
      simp only [blook, ih]
      split
      · rename_i h2
        rw [if_neg (by omega)]
      · rfl
@[simp] theorem mget_B (m : List (Int × Bool)) (n : Int) : mget [.int .i64 n] (encMB m) [.im (.raw (.bool false))] = [.im (.raw (.bool ((blook n m).getD false)))] := by
  induction m with
  | nil => rfl
  | cons p r ih =>
    have e : encMB (p :: r) = (kI p.1, [.im (rB p.2)]) :: encMB r := rfl
    rw [e]
    simp only [mget, mfind, blook, beqs_k, decide_eq_true_eq] at ih ⊢
    split
    · rfl
    · exact ih
@[simp] theorem mhas_B (m : List (Int × Bool)) (n : Int) : mhas [.int .i64 n] (encMB m) = (blook n m).isSome := by
  induction m with
  | nil => rfl
  | cons p r ih =>
    have e : encMB (p :: r) = (kI p.1, [.im (rB p.2)]) :: encMB r := rfl
    rw [e]
    simp only [mhas, mfind, blook, beqs_k, decide_eq_true_eq] at ih ⊢
    split
    · rfl
    · exact ih
@[simp] theorem mset_B (m : List (Int × Bool)) (n : Int) (v : Bool) : mset [.int .i64 n] [.im (.raw (.bool v))] (encMB m) = encMB (bput n v m) := by
  induction m with
  | nil => rfl
  | cons p r ih =>
    have e : encMB (p :: r) = (kI p.1, [.im (rB p.2)]) :: encMB r := rfl
    rw [e]
    simp only [mset, bput, beqs_k, decide_eq_true_eq] at ih ⊢
    split
    · rfl
    · rw [ih]; rfl
@[simp] theorem encMB_len (m : List (Int × Bool)) : (encMB m).length = m.length := by simp [encMB]
@[simp] theorem map_fz_B (n : Nat) (objs : List DObj) (m : List (Int × Bool)) : ((encMB m).map fun x => (x.1, x.2.map (fz n objs))) = encMB m := by
  simp [encMB, fz, DC.lt]
@[simp] theorem map_rn_B (e : Nat → Nat) (m : List (Int × Bool)) : ((encMB m).map fun x => (x.1, rnL e x.2)) = encMB m := by
  simp [encMB, rnL, rnC]
section
variable {P : Program} {G : Nat → Option (List IC)}
theorem CallE.embed_ex {ι : Type} {f : FuncId} {args args0 : List DV} {objs objs0 : List DObj} {p : ι → Prop} {o1 : ι → List DObj} {d0 : ι → DV} {Q : DV → List DObj → Prop} {t : Tok Q} (es : List Nat) (h : DCall P G f args0 objs0 (fun d o => ∃ i, p i ∧ d = d0 i ∧ o = o1 i))
    (ha : args0.map (rnV (emb es objs.length)) = args) (hl : es.length = objs0.length) (hnd : es.Nodup) (hes : ∀ x ∈ es, x < objs.length)
    (hobj : ∀ i d, objs0[i]? = some d → objs[emb es objs.length i]? = some (rnO (emb es objs.length) d)) (hq : ∀ i, p i → Q (rnV (emb es objs.length) (d0 i)) (mergeO es objs (o1 i))) : CallE P G f args objs Q t := by
  subst ha
  refine (DCall.embed es h hl hnd hes hobj).mono fun d o ⟨d', o', ⟨i, hp, h1, h2⟩, _, h3, h4⟩ => ?_
  subst h1; subst h2; subst h3; subst h4
  exact hq i hp
end
end Go.Ab
namespace Go.Ab
open Go
@[simp] theorem rn_ims (e : Nat → Nat) (l : List (List IC)) : (ims l).map (rnL e) = ims l := by
  simp only [ims, List.map_map]
  exact List.map_congr_left fun x _ => by simp [rnL_im]
@[simp] theorem emb_nil (n o : Nat) : emb [] n o = n + o := by simp [emb]
attribute [simp] rnV rnC rnL rnVL rnO putO
def clrI (L : List Int) (off len : Nat) : List Int := L.take off ++ (List.replicate len 0 ++ L.drop (off + len))
theorem clrI_len {L : List Int} {off len : Nat} (h : off + len ≤ L.length) : (clrI L off len).length = L.length := by simp [clrI]; omega
@[simp] theorem dclearE_I (L : List Int) (off len : Nat) : dclearE (ims (L.map encI)) off len (.im (.raw (.int .i64 0))) = ims ((clrI L off len).map encI) := by
  simp only [dclearE, clrI, ims, List.map_append, List.map_take, List.map_drop, List.map_replicate]
  rfl
theorem QCall.thaw {P : Program} {G : Nat → Option (List IC)} {f : FuncId} {args args0 : List DV} {d0 : DV} {objs : List DObj} {K : DV → Prop} {t : Tok K} (h : ∀ objs, DCall P G f args0 objs (fun d o => d = d0 ∧ o = objs)) (ha : args0 = args.map (fzV 0 objs)) (hd : FlV d0) (hk : K d0) : QCall P G f args objs K t :=
  ⟨d0, DCall.thaw h ha hd, hk⟩
end Go.Ab
namespace Go.Ab
open Go
@[simp] theorem ims_set1 (X : List (List IC)) (k : Nat) (c : IC) : (ims X).set k [DC.im c] = ims (X.set k [c]) := by
  simp only [ims, List.map_set, List.map_cons, List.map_nil]
@[simp] theorem ims_get1 (X : List (List IC)) (k : Nat) (h : k < (ims X).length) : (ims X)[k] = (X[k]'(by simpa [ims_length] using h)).map .im := by simp [ims]
end Go.Ab
namespace Go.Proofs
open Go Go.Ab
set_option linter.unusedSimpArgs false
variable {G : Nat → Option (List IC)}
end Go.Proofs
namespace Go.Ab
open Go
def findL (p : List Int → Bool) : List Int → Nat → List Int → Option (List Int)
  | [], 0, l => if p l then some l else none
  | [], _ + 1, _ => none
  | _ :: _, 0, l => if p l then some l else none
  | a :: r, k + 1, l => match findL p r k (l ++ [a]) with
    | some x => some x
    | none => findL p r (k + 1) l
theorem findL_zero (p : List Int → Bool) (A l : List Int) : findL p A 0 l = if p l then some l else none := by cases A <;> rfl
def sizesL (p : List Int → Bool) (A : List Int) : Nat → Option (List Int)
  | 0 => none
  | k + 1 => match sizesL p A k with
    | some x => some x
    | none => findL p A k []
end Go.Ab
namespace Go.Ab
open Go
theorem isort_strict {l : List Int} (h : l.Nodup) : (isort l).Pairwise (· < ·) := by
  have h1 : (isort l).Nodup := (List.mergeSort_perm l _).nodup_iff.2 h
  have h2 := List.pairwise_mergeSort (le := fun x y : Int => decide (x ≤ y)) (fun a b c h1 h2 => by simp at *; omega) (fun a b => by simp; omega) l
  rw [List.nodup_iff_pairwise_ne] at h1
  refine (h1.and h2).imp ?_
  rintro a b ⟨h3, h4⟩
  simp at h4; omega
theorem strict_sub : ∀ (X Y : List Int), X.Pairwise (· < ·) → Y.Pairwise (· < ·) → (∀ x ∈ X, x ∈ Y) → X.Sublist Y
  | [], Y, _, _, _ => by simp
  | a :: x, [], _, _, h => by have := h a (by simp); simp at this
  | a :: x, b :: y, hX, hY, h => by
    obtain ⟨h1, h2⟩ := List.pairwise_cons.1 hX
    obtain ⟨h3, h4⟩ := List.pairwise_cons.1 hY
    by_cases e : a = b
    · subst e
      refine List.Sublist.cons_cons a (strict_sub x y h2 h4 fun z hz => ?_)
      rcases List.mem_cons.1 (h z (by simp [hz])) with rfl | hm
      · have := h1 z hz; omega
      · exact hm
    · refine List.Sublist.cons b (strict_sub (a :: x) y hX h4 fun z hz => ?_)
      have hab : b < a := by
        rcases List.mem_cons.1 (h a (by simp)) with rfl | hm
        · exact absurd rfl e
        · exact h3 a hm
      rcases List.mem_cons.1 (h z hz) with rfl | hm
      · rcases List.mem_cons.1 hz with rfl | hz
        · omega
        · have := h1 z hz; omega
      · exact hm
theorem strict_eq {X Y : List Int} (hX : X.Pairwise (· < ·)) (hY : Y.Pairwise (· < ·)) (h : ∀ x, x ∈ X ↔ x ∈ Y) : X = Y :=
  (strict_sub X Y hX hY fun x hx => (h x).1 hx).eq_of_length_le (strict_sub Y X hY hX fun x hx => (h x).2 hx).length_le
theorem mask_ex (f : Nat → Bool) : ∀ n : Nat, ∃ s : Nat, s < 2 ^ n ∧ ∀ i < n, s.testBit i = f i
  | 0 => ⟨0, by simp, fun i hi => by omega⟩
  | n + 1 => by
    obtain ⟨s, h1, h2⟩ := mask_ex f n
    cases hf : f n
    · refine ⟨s, by rw [Nat.pow_succ]; omega, fun i hi => ?_⟩
      by_cases e : i = n
      · subst e; rw [hf]; exact Nat.testBit_lt_two_pow h1
      · exact h2 i (by omega)
    · refine ⟨2 ^ n + s, by rw [Nat.pow_succ]; omega, fun i hi => ?_⟩
      by_cases e : i = n
      · subst e; rw [hf, Nat.testBit_two_pow_add_eq, Nat.testBit_lt_two_pow h1]; rfl
      · rw [Nat.testBit_two_pow_add_gt (by omega)]; exact h2 i (by omega)
def selN (N : List Int) (s : Nat) (k : Nat) : List Int := ((List.range k).filter fun i => s.testBit i).map fun i => N.getD i 0
theorem selN_succ (N : List Int) (s k : Nat) : selN N s (k + 1) = selN N s k ++ (if s.testBit k = true then [N.getD k 0] else []) := by
  unfold selN
  rw [List.range_succ, List.filter_append, List.map_append]
  congr 1
  by_cases h : s.testBit k = true <;> simp [h]
theorem selN_mem {N : List Int} {s k : Nat} (hk : k ≤ N.length) {x : Int} : x ∈ selN N s k ↔ ∃ i, i < k ∧ s.testBit i = true ∧ N[i]? = some x := by
  simp only [selN, List.mem_map, List.mem_filter, List.mem_range]
  constructor
  · rintro ⟨i, ⟨h1, h2⟩, rfl⟩
    have hi : i < N.length := by omega
    exact ⟨i, h1, h2, by simp [hi]⟩
  · rintro ⟨i, h1, h2, h3⟩
    exact ⟨i, ⟨h1, h2⟩, by simp [h3]⟩
end Go.Ab
namespace Go.Ab
open Go
theorem bit_at (s i : Nat) : IntKind.i64.wrap ((BitVec.ofInt 64 ((s : Int).fdiv (2 ^ i)) &&& BitVec.ofInt 64 1).toNat : Int) = if s.testBit i = true then 1 else 0 := by
  have e1 : (s : Int).fdiv (2 ^ i) = ((s / 2 ^ i : Nat) : Int) := by
    rw [Int.fdiv_eq_ediv_of_nonneg _ (by exact Int.pow_nonneg (by omega))]
    simp
  have e2 : (BitVec.ofInt 64 ((s / 2 ^ i : Nat) : Int) &&& BitVec.ofInt 64 1).toNat = (s / 2 ^ i) % 2 := by
    have h1 : (BitVec.ofInt 64 1) = 1#64 := by decide
    rw [h1, BitVec.ofInt_natCast, BitVec.toNat_and, BitVec.toNat_ofNat, BitVec.toNat_ofNat]
    rw [show (1 % 2 ^ 64 : Nat) = 1 by decide, Nat.and_one_is_mod]
    omega
  rw [e1, e2, Nat.testBit_eq_decide_div_mod_eq]
  rcases Nat.mod_two_eq_zero_or_one (s / 2 ^ i) with h | h
  · rw [h]; simp; decide
  · rw [h]; simp; decide
end Go.Ab
namespace Go.Ab
open Go
theorem findL_short {p : List Int → Bool} : ∀ (A : List Int) (k : Nat) (l : List Int), A.length < k → findL p A k l = none
  | A, 0, l, h => by omega
  | [], k + 1, l, _ => rfl
  | a :: r, k + 1, l, h => by
    simp only [List.length_cons] at h
    simp only [findL, findL_short r k (l ++ [a]) (by omega), findL_short r (k + 1) l (by omega)]
theorem findL_len {p : List Int → Bool} : ∀ (A : List Int) (k : Nat) (l x : List Int), findL p A k l = some x → x.length = l.length + k
  | A, 0, l, x, h => by
    rw [findL_zero] at h
    split at h
    · cases h; rfl
    · cases h
  | [], k + 1, l, x, h => by cases h
  | a :: r, k + 1, l, x, h => by
    simp only [findL] at h
    split at h
    · rename_i y h1
      cases h
      have := findL_len r k (l ++ [a]) _ h1
      simp at this; omega
    · exact findL_len r (k + 1) l x h
theorem findL_at {p : List Int → Bool} {A : List Int} {i k : Nat} {l : List Int} (h : i < A.length) : findL p (A.drop i) (k + 1) l = match findL p (A.drop (i + 1)) k (l ++ [A[i]]) with
    | some x => some x
    | none => findL p (A.drop (i + 1)) (k + 1) l := by
  rw [List.drop_eq_getElem_cons h]; rfl
theorem sizesL_next {p : List Int → Bool} {A : List Int} {k : Nat} (h1 : sizesL p A k = none) : sizesL p A (k + 1) = findL p A k [] := by
  simp only [sizesL, h1]
theorem sizesL_mono {p : List Int → Bool} {A x : List Int} {k : Nat} (h : sizesL p A k = some x) : ∀ d, sizesL p A (k + d) = some x
  | 0 => h
  | d + 1 => by
    rw [← Nat.add_assoc]
    simp only [sizesL, sizesL_mono h d]
theorem sizesL_hit {p : List Int → Bool} {A x : List Int} {k m : Nat} (h1 : sizesL p A k = none) (h2 : findL p A k [] = some x) (h : k < m) : sizesL p A m = some x := by
  have := sizesL_mono (sizesL_next h1 ▸ h2 : sizesL p A (k + 1) = some x) (m - (k + 1))
  rwa [show k + 1 + (m - (k + 1)) = m by omega] at this
def resV : Option (List Int) → DV
  | some x => isv x
  | none => .one (.im (.raw (.slice none 0 0)))
end Go.Ab
namespace Go.Proofs
open Go Go.Ab
set_option linter.unusedSimpArgs false
variable {G : Nat → Option (List IC)}
theorem isortL (l : List Int) : (isort l).length = l.length := (List.mergeSort_perm l _).length_eq
theorem selN_len (N : List Int) (s k : Nat) : (selN N s k).length ≤ k := by
  induction k with
  | zero => simp [selN]
  | succ k ih =>
    rw [selN_succ]
    split <;> simp <;> omega
theorem some_c (l : List Int) (s : Nat) (hl : l.length ≤ 60) (objs : List DObj) : DCall Tryd.prog G 34 [isv l, iv (s : Int)] objs (fun rr objs' => rr = isv (selN l s l.length) ∧ objs' = objs) := by
  refine DCall.frame ?_ (by simp) (by simp) objs
  refine DCall_intro Tryd.func34 rfl Tryd.ntmps34 (by simp) rfl ?_
  try simp only [isv, iv]
  have hs0 : (0 : Int) ≤ (s : Int) := by omega
  have hz : selN l s 0 = [] := by simp [selN]
  have hs : True := trivial
  repeat' first | (with_reducible first | refine q01 ?_ | refine q11 ?_ | refine q12 ?_) | (with_reducible refine DT_regionE [0,1,4,5,6,7,8,9,10,11,19] ?_; simp -dsimp [hs])
  all_goals try simp -dsimp [hs]
  all_goals try clear hs
  refine DT_loop (ι := { p : Nat × Nat × Bool // p.1 ≤ l.length }) (fun p => ⟨26, [(1, iv (s : Int)), (5, .one (.vec 1 p.1.2.1 0 (selN l s p.1.1).length)), (8, isv l), (9, iv (l.length : Int)), (10, iv (p.1.1 : Int))], [.vec 1 [] 0 true, .vec 1 (ims ((selN l s p.1.1).map encI)) p.1.2.1 p.1.2.2]⟩) (fun p => l.length - p.1.1) ⟨(0, 0, true), by simp⟩ (Weak.of_keep [1,5,8,9,10] (by simp [hz])) ?_
  rintro ⟨⟨i, g, nl⟩, hi⟩
  simp only at hi
  simp only [iv, isv]
  by_cases hlt : i < l.length
  · have hw : IntKind.i64.wrap ((i : Int) + 1) = ((i + 1 : Nat) : Int) := i64w (by omega) (by omega)
    have hi63 : min i 64 = i := by omega
    have hin : ¬ ((i : Int) < 0) := by omega
    have hb64 : IntKind.i64.bits = 64 := rfl
    have hbit := bit_at s i
    have hSl := selN_len l s i
    have hsu : selN l s (i + 1) = selN l s i ++ (if s.testBit i = true then [l[i]] else []) := by
      rw [selN_succ, show l.getD i 0 = l[i] by simp [hlt]]
    generalize hx : l[i] = x at *
    generalize selN l s i = S at *
    cases hb : s.testBit i
    · rw [hb] at hbit hsu
      simp at hbit
      rw [if_neg Bool.false_ne_true, List.append_nil] at hsu
      have hs : True := trivial
      repeat' first | (with_reducible first | refine q01 ?_ | refine q04 ?_ | refine q11 ?_ | refine q12 ?_ | refine q14 ?_) | (with_reducible refine DT_regionE [0,1,4,5,6,7,8,9,10,11,19] ?_; simp -dsimp [hx, hlt, hw, hin, hi63, hb64, hbit, hs]) | (refine DT_cond rfl (fun h => ?_) (fun h => ?_) <;> (try simp only [nrm] at h) <;> (try exact Bool.noConfusion h))
      all_goals try simp -dsimp [hx, hlt, hw, hin, hi63, hb64, hbit, hs]
      all_goals try clear hs
      all_goals exact At.round ⟨(i + 1, g, nl), by simp only; omega⟩ (by simp only; omega) (Weak.of_keep [1,5,8,9,10] (by simp [hsu]))
    · rw [hb] at hbit hsu
      simp at hbit
      rw [if_pos rfl] at hsu
      have hs : True := trivial
      repeat' first | (with_reducible first | refine q01 ?_ | refine q04 ?_ | refine q11 ?_ | refine q12 ?_ | refine q14 ?_ | refine And.intro (by omega) ?_) | (with_reducible refine DT_regionE [0,1,4,5,6,7,8,9,10,11,19] ?_; simp -dsimp [hx, hlt, hw, hin, hi63, hb64, hbit, hs]) | (refine DT_cond rfl (fun h => ?_) (fun h => ?_) <;> (try simp only [nrm] at h) <;> (try exact Bool.noConfusion h))
      all_goals try simp -dsimp [hx, hlt, hw, hin, hi63, hb64, hbit, hs]
      all_goals try clear hs
      all_goals exact At.round ⟨(i + 1, g + 1, false), by simp only; omega⟩ (by simp only; omega) (Weak.of_drop [1,5,8,9,10] 2 (by simp) (by simp) (by simp [hsu]))
  · obtain rfl : i = l.length := by omega
    have hs : True := trivial
    repeat' first | (with_reducible first | refine q01 ?_ | refine q03 ?_ | refine q06 ?_ | refine q11 ?_ | refine q16 ?_ | refine q17 ?_) | (with_reducible refine At.fn_ret (by simp -dsimp [hlt, hs]; exact rfl) ?_) | (with_reducible refine DT_regionE [0,1,4,5,6,7,8,9,10,11,19] ?_; simp -dsimp [hlt, hs]) | (refine DT_cond rfl (fun h => ?_) (fun h => ?_) <;> (try simp only [nrm] at h) <;> (try exact Bool.noConfusion h))
    all_goals try simp -dsimp [hlt, hs]
    all_goals try clear hs
end Go.Proofs
namespace Go.Proofs
open Go Go.Ab
set_option linter.unusedSimpArgs false
variable {G : Nat → Option (List IC)}
def encL (l : List Int) : List IC := [.sl (l.map encI)]
def lsv (L : List (List Int)) : DV := .one (.im (.sl (L.map encL)))
attribute [simp] encL lsv
def trTo (O : List Int) (k : Nat) : List (List Int) := (List.range k).map fun s => selN O s O.length
def truthsL (O : List Int) : List (List Int) := trTo O (2 ^ O.length)
theorem trTo_len (O : List Int) (k : Nat) : (trTo O k).length = k := by simp [trTo]
theorem truthsL_len (O : List Int) : (truthsL O).length = 2 ^ O.length := trTo_len _ _
theorem trTo_succ (O : List Int) (k : Nat) : trTo O (k + 1) = trTo O k ++ [selN O k O.length] := by
  simp [trTo, List.range_succ]
end Go.Proofs
namespace Go.Proofs
open Go Go.Ab
set_option linter.unusedSimpArgs false
variable {G : Nat → Option (List IC)}
def noteG (G : Nat → Option (List IC)) : Prop := G 0 = some [.fn (.func 112) [], .fn (.func 113) [], .fn (.func 114) [], .fn (.func 115) [], .fn (.func 117) [], .fn (.func 118) [], .fn (.func 121) [], .fn (.func 123) []]
def SortOk (G : Nat → Option (List IC)) : Prop := ∀ (l : List Int) (g sz : Nat) (nl : Bool), (sz = 1 ∨ nl = true ∧ l = []) → l.length < 1000000 → DCall Tryd.prog G 43 [.one (.vec 0 g 0 l.length)] [.vec sz (ims (l.map encI)) g nl] (fun d o => d = .tup [] ∧ o = [.vec sz (ims ((isort l).map encI)) g nl])
def fileI (n : Notes) : IC := .ip [.sl (n.reg.map encIssue), .sl (n.notes.map encNote), .sl ((nums n.reg).map encI), .sl ((isort (openL n.notes)).map encI)]
def fileR (n : Notes) : DV := if notesE n = 0 then .one (.im (fileI n)) else .one (.im (.raw (.pointer none)))
theorem fileR_im (n : Notes) : ImV (fileR n) := by unfold fileR; split <;> simp [fileI]
attribute [simp] fileR_im
theorem notesE_bad {n : Notes} {i : Nat} {x : Note} (h0 : checkR n.reg = 0) (hx : n.notes[i]? = some x) (h : nkA n i x = false) : notesE n = 30 := by
  unfold notesE
  rw [if_neg (by simp [h0]), if_neg]
  intro hb
  have := (notesB_iff.1 hb).2.1 i x hx
  rw [h] at this; cases this
set_option maxHeartbeats 4000000 in
theorem opened_c (n : Notes) (hG : sheetG G) (hN : noteG G) (hS : SortOk G) (hs : NSm n) (objs : List DObj) : DCall Tryd.prog G 36 [notesv n] objs (fun rr objs' => rr = .tup [fileR n, iv (notesE n)] ∧ objs' = objs) := by
  refine DCall.frame ?_ (by simp) (by simp) objs
  refine DCall_intro Tryd.func36 rfl Tryd.ntmps36 (by simp) rfl ?_
  try simp only [notesv]
  have hN' : G 0 = some [.fn (.func 112) [], .fn (.func 113) [], .fn (.func 114) [], .fn (.func 115) [], .fn (.func 117) [], .fn (.func 118) [], .fn (.func 121) [], .fn (.func 123) []] := hN
  obtain ⟨hsr, hsn, hsx⟩ := hs
  have c1 := drawings_c n.reg hG hsr
  by_cases h0 : checkR n.reg = 0
  · rw [h0, show drawR n.reg = nums n.reg by simp [drawR, h0]] at c1
    by_cases hl : n.notes.length ≤ 12
    · have hli : ¬ (12 : Int) < n.notes.length := by omega
      have hE : notesE n = if notesB n then 0 else 30 := by unfold notesE; rw [if_neg (by simp [h0])]
      have hs : True := trivial
      repeat' first | (with_reducible first | refine q01 ?_ | refine q11 ?_ | refine q12 ?_ | refine q13 ?_ | refine q14 ?_ | refine q15 ?_) | (refine CallE.pure (c1) ?_; try simp -dsimp [hli, hs]) | (with_reducible refine DT_regionN (id := 6) (nt := 78) [0,1,2,3,4,5,6,7,8,9,11,19,24,30,31,32,33,37,38,39,46,50,71] rfl ?_; simp -dsimp [hli, hs]) | (with_reducible refine DT_regionE [0,1,2,3,4,5,6,7,8,9,11,19,24,30,31,32,33,37,38,39,46,50,71] ?_; simp -dsimp [hli, hs]) | (refine DT_cond rfl (fun h => ?_) (fun h => ?_) <;> (try simp only [nrm] at h) <;> (try exact Bool.noConfusion h))
      all_goals try simp -dsimp [hli, hs]
      all_goals try clear hs
      refine DT_loop (ι := { p : Nat × Nat × Nat × Bool // p.1 ≤ n.notes.length ∧ (p.2.2.1 = 1 ∨ p.2.2.2 = true ∧ openL (n.notes.take p.1) = []) ∧ ∀ (j : Nat) (x : Note), j < p.1 → n.notes[j]? = some x → nkA n j x = true }) (fun p => ⟨78, [(1, .one (.ptr 0 0)), (2, .one (.im (.raw (.pointer none)))), (3, iv 0), (6, .one (.ptr 5 0)), (7, bv false), (30, .one (.im (.sl (n.notes.map encNote)))), (31, iv (n.notes.length : Int)), (32, iv (p.1.1 : Int))], [.row ((encNotes n).map .im), .vec 0 [] 0 true, .vec 0 [] 0 true, .vec 0 [] 0 true, .vec p.1.2.2.1 (ims ((openL (n.notes.take p.1.1)).map encI)) p.1.2.1 p.1.2.2.2, .row [.im (.sl (n.reg.map encIssue)), .im (.sl (n.notes.map encNote)), .im (.sl ((nums n.reg).map encI)), .vec 4 p.1.2.1 0 (openL (n.notes.take p.1.1)).length]]⟩) (fun p => n.notes.length - p.1.1) ⟨(0, 0, 0, true), by simp [openL]⟩ (Weak.of_drop [1,2,3,6,7,30,31,32] 6 (by simp) (by simp) (by simp [openL])) ?_
      rintro ⟨⟨k, g, sz, nl⟩, hk, hsz, hok⟩
      simp only at hk hsz hok
      simp only [iv, bv]
      by_cases hlt : k < n.notes.length
      · have hx0 : n.notes[k]? = some n.notes[k] := by simp [hlt]
        have hw : IntKind.i64.wrap ((k : Int) + 1) = ((k + 1 : Nat) : Int) := i64w (by omega) (by omega)
        have hos := openL_snoc n.notes k hlt
        have hol := openL_len (n.notes.take k)
        rw [List.length_take] at hol
        generalize hx : n.notes[k] = x at *
        have k1 := nk1_c (G := G) n k x hx0
        have k2 := nk2_c (G := G) n k x hx0
        have k3 := nk3_c (G := G) n k x hx0
        have k4 := nk4_c (G := G) n k x hx0 hG hsr
        have k5 := nk5_c (G := G) n k x hx0
        have k6 := nk6_c (G := G) n k x hx0 (by omega)
        have k7 := nk7_c (G := G) n k x hx0 (by omega)
        have k8 := nk8_c (G := G) n k x hx0 (by omega)
        rw [show nk1 x = nkI n k x 0 from rfl] at k1
        rw [show nk2 x = nkI n k x 1 from rfl] at k2
        rw [show nk3 x = nkI n k x 2 from rfl] at k3
        rw [show nk4 n.reg x = nkI n k x 3 from rfl] at k4
        rw [show nk5 x = nkI n k x 4 from rfl] at k5
        rw [show nk6 n.notes k x = nkI n k x 5 from rfl] at k6
        rw [show nk7 n.notes k x = nkI n k x 6 from rfl] at k7
        rw [show nk8 n.notes k x = nkI n k x 7 from rfl] at k8
        have hbad : ∀ c, nkI n k x c = false → notesE n = 30 := fun c h => notesE_bad h0 hx0 (nkI_bad h)
        have hstep : nkA n k x = true → ∀ (j : Nat) (z : Note), j < k + 1 → n.notes[j]? = some z → nkA n j z = true := fun h j z hj hz => by
          by_cases e : j = k
          · subst e; rw [hx0] at hz; cases hz; exact h
          · exact hok j z (by omega) hz
        have hs : True := trivial
        repeat' first | (with_reducible first | refine q01 ?_ | refine q11 ?_ | refine q12 ?_ | refine q14 ?_) | (with_reducible refine DT_regionE [0,1,2,3,4,5,6,7,8,9,11,19,24,30,31,32,33,37,38,39,46,50,71] ?_; simp -dsimp [hx, hlt, hN', hs]) | (refine DT_cond rfl (fun h => ?_) (fun h => ?_) <;> (try simp only [nrm] at h) <;> (try exact Bool.noConfusion h))
        all_goals try simp -dsimp [hx, hlt, hN', hs]
        all_goals try clear hs
        refine DT_loop (ι := { c : Nat // c ≤ 8 ∧ ∀ e < c, nkI n k x e = true }) (fun p => ⟨78, [(1, .one (.ptr 0 0)), (2, .one (.im (.raw (.pointer none)))), (3, iv 0), (6, .one (.ptr 5 0)), (7, bv false), (8, iv (k : Int)), (9, .one (.ptr 6 0)), (30, .one (.im (.sl (n.notes.map encNote)))), (31, iv (n.notes.length : Int)), (32, iv (k : Int)), (37, .agg [.im (.fn (.func 112) []), .im (.fn (.func 113) []), .im (.fn (.func 114) []), .im (.fn (.func 115) []), .im (.fn (.func 117) []), .im (.fn (.func 118) []), .im (.fn (.func 121) []), .im (.fn (.func 123) [])]), (38, iv (p.1 : Int))], [.row ((encNotes n).map .im), .vec 0 [] 0 true, .vec 0 [] 0 true, .vec 0 [] 0 true, .vec sz (ims ((openL (n.notes.take k)).map encI)) g nl, .row [.im (.sl (n.reg.map encIssue)), .im (.sl (n.notes.map encNote)), .im (.sl ((nums n.reg).map encI)), .vec 4 g 0 (openL (n.notes.take k)).length], .row ((encNote x).map .im)]⟩) (fun p => 8 - p.1) ⟨0, by simp⟩ (Weak.of_keep [1,2,3,6,7,8,9,30,31,32,37,38] (by simp)) ?_
        rintro ⟨c, hc, hcc⟩
        simp only [iv, bv]
        by_cases hc8 : c < 8
        · have hm : nkI n k x c = true → ∀ e < c + 1, nkI n k x e = true := fun h e he => by
            rcases Nat.lt_succ_iff_lt_or_eq.1 he with h1 | rfl
            · exact hcc e h1
            · exact h
          have hbc := hbad c
          have hi8 : c = 0 ∨ c = 1 ∨ c = 2 ∨ c = 3 ∨ c = 4 ∨ c = 5 ∨ c = 6 ∨ c = 7 := by omega
          rcases hi8 with rfl | rfl | rfl | rfl | rfl | rfl | rfl | rfl
          all_goals
            have hs : True := trivial
            repeat' first | (with_reducible first | refine q01 ?_ | refine q02 ?_ | refine q03 ?_ | refine q04 ?_ | refine q06 ?_ | refine q07 (by decide) ?_ | refine q09 ?_ | refine q11 ?_ | refine q12 ?_ | refine q14 ?_ | refine q16 ?_ | refine q17 ?_) | (with_reducible refine At.fn_ret (by simp -dsimp [hli, hs]; exact rfl) ?_) | (refine CallE.pure (k1) ?_; try simp -dsimp [hli, hs]) | (refine CallE.pure (k2) ?_; try simp -dsimp [hli, hs]) | (refine CallE.pure (k3) ?_; try simp -dsimp [hli, hs]) | (refine CallE.pure (k4) ?_; try simp -dsimp [hli, hs]) | (refine CallE.pure (k5) ?_; try simp -dsimp [hli, hs]) | (refine CallE.pure (k6) ?_; try simp -dsimp [hli, hs]) | (refine CallE.pure (k7) ?_; try simp -dsimp [hli, hs]) | (refine CallE.pure (k8) ?_; try simp -dsimp [hli, hs]) | (with_reducible refine DT_regionE [0,1,2,3,4,5,6,7,8,9,11,19,24,30,31,32,33,37,38,39,46,50,71] ?_; simp -dsimp [hli, hs]) | (refine DT_cond rfl (fun h => ?_) (fun h => ?_) <;> (try simp only [nrm] at h) <;> (try exact Bool.noConfusion h))
            all_goals try simp -dsimp [hli, hs]
            all_goals try clear hs
          all_goals try (have h30 := hbc (by assumption); simp [fileR, h30]; done)
          all_goals exact At.round ⟨_, by omega, hm (by assumption)⟩ (by simp) (Weak.of_drop [1,2,3,6,7,8,9,30,31,32,37,38] 7 (by simp) (by simp) (by simp; exact i64w (by omega) (by omega)))
        · obtain rfl : c = 8 := by omega
          have hok1 := hstep (nkI_all hcc)
          have hsz' : sz = 1 ∨ nl = true := hsz.imp id And.left
          clear k1 k2 k3 k4 k5 k6 k7 k8
          by_cases hsg : x.signed = 1
          · rw [if_pos hsg] at hos
            have hs : True := trivial
            repeat' first | (with_reducible first | refine q01 ?_ | refine q03 ?_ | refine q04 ?_ | refine q06 ?_ | refine q11 ?_ | refine q16 ?_ | refine And.intro (by omega) ?_) | (refine DT_regionX (id := 18) (nt := 78) 8 [0] [0,1,2,3,4,5,6,7,8,9,11,19,24,30,31,32,33,37,38,39,46,50,52,53,54,55,56,57,58,71] [0,1,2,3,4,5,6,7,8,9,11,19,24,30,31,32,33,37,38,39,46,50,71] mixed rfl (by kernel_rfl) ?_; simp -dsimp [hx, hlt, hsg, hw, hsz', hs]) | (with_reducible refine DT_regionE [0,1,2,3,4,5,6,7,8,9,11,19,24,30,31,32,33,37,38,39,46,50,71] ?_; simp -dsimp [hx, hlt, hsg, hw, hsz', hs]) | (refine DT_cond rfl (fun h => ?_) (fun h => ?_) <;> (try simp only [nrm] at h) <;> (try exact Bool.noConfusion h))
            all_goals try simp -dsimp [hx, hlt, hsg, hw, hsz', hs]
            all_goals try clear hs
            exact At.round ⟨(k + 1, g + 1, 1, false), by omega, .inl rfl, hok1⟩ (by simp; omega) (Weak.of_drop [1,2,3,6,7,30,31,32] 6 (by simp) (by simp) (by simp [hos]))
          · rw [if_neg hsg, List.append_nil] at hos
            have hszn : sz = 1 ∨ nl = true ∧ openL (n.notes.take (k + 1)) = [] := by rw [hos]; exact hsz
            have hs : True := trivial
            repeat' first | (with_reducible first | refine q01 ?_ | refine q03 ?_ | refine q04 ?_ | refine q06 ?_ | refine q11 ?_ | refine q14 ?_ | refine q16 ?_) | (with_reducible refine DT_regionE [0,1,2,3,4,5,6,7,8,9,11,19,24,30,31,32,33,37,38,39,46,50,71] ?_; simp -dsimp [hx, hlt, hsg, hw, hs]) | (refine DT_cond rfl (fun h => ?_) (fun h => ?_) <;> (try simp only [nrm] at h) <;> (try exact Bool.noConfusion h))
            all_goals try simp -dsimp [hx, hlt, hsg, hw, hs]
            all_goals try clear hs
            exact At.round ⟨(k + 1, g, sz, nl), by omega, hszn, hok1⟩ (by simp; omega) (Weak.of_drop [1,2,3,6,7,30,31,32] 6 (by simp) (by simp) (by simp [hos]))
      · obtain rfl : k = n.notes.length := by omega
        rw [List.take_length] at *
        have hall : allOk n := fun i x hx => hok i x (lt_of_getElem? hx) hx
        have hol := openL_len n.notes
        have c2 := hS (openL n.notes) g sz nl hsz (by omega)
        have hil := isort_len (openL n.notes)
        by_cases h5 : (openL n.notes).length ≤ 5
        · have hE0 : notesE n = 0 := by rw [hE, if_pos (notesB_iff.2 ⟨hl, hall, h5⟩)]
          have h5i : ¬ (5 : Int) < (openL n.notes).length := by omega
          have hsz' : sz = 1 ∨ nl = true := hsz.imp id And.left
          have htk : (ims ((isort (openL n.notes)).map encI)).take (openL n.notes).length = ims ((isort (openL n.notes)).map encI) := List.take_of_length_le (by simp [ims_length, hil])
          have hs : True := trivial
          repeat' first | (with_reducible first | refine q01 ?_ | refine q03 ?_ | refine q06 ?_ | refine q09 ?_ | refine q11 ?_ | refine q14 ?_ | refine q16 ?_ | refine q17 ?_) | (with_reducible refine At.fn_ret (by simp -dsimp [hlt, h5i, hsz', htk, hil, hs]; exact rfl) ?_) | (refine CallE.embed [4] (c2) ?_ ?_ ?_ ?_ ?_ ?_; (focus (simp [emb]; done)); (focus (simp; done)); (focus (simp; done)); (focus (simp; done)); (focus (refine emb_all ?_; simp [emb, embAll]; done)); try simp -dsimp [mergeO, emb, hlt, h5i, hsz', htk, hil, hs]) | (with_reducible refine DT_regionE [0,1,2,3,4,5,6,7,8,9,11,19,24,30,31,32,33,37,38,39,46,50,71] ?_; simp -dsimp [hlt, h5i, hsz', htk, hil, hs]) | (refine DT_cond rfl (fun h => ?_) (fun h => ?_) <;> (try simp only [nrm] at h) <;> (try exact Bool.noConfusion h))
          all_goals try simp -dsimp [hlt, h5i, hsz', htk, hil, hs]
          all_goals try clear hs
          all_goals simp [fileR, hE0, fileI, hil, htk]
        · have hE0 : notesE n = 30 := by rw [hE, if_neg fun h => h5 (notesB_iff.1 h).2.2]
          have h5i : (5 : Int) < (openL n.notes).length := by omega
          have hs : True := trivial
          repeat' first | (with_reducible first | refine q01 ?_ | refine q02 ?_ | refine q03 ?_ | refine q06 ?_ | refine q09 ?_ | refine q11 ?_ | refine q16 ?_ | refine q17 ?_) | (with_reducible refine At.fn_ret (by simp -dsimp [hlt, h5i, hs]; exact rfl) ?_) | (with_reducible refine DT_regionE [0,1,2,3,4,5,6,7,8,9,11,19,24,30,31,32,33,37,38,39,46,50,71] ?_; simp -dsimp [hlt, h5i, hs]) | (refine DT_cond rfl (fun h => ?_) (fun h => ?_) <;> (try simp only [nrm] at h) <;> (try exact Bool.noConfusion h))
          all_goals try simp -dsimp [hlt, h5i, hs]
          all_goals try clear hs
          all_goals simp [fileR, hE0]
    · have hE : notesE n = 30 := by
        unfold notesE
        rw [if_neg (by simp [h0]), if_neg fun h => hl (notesB_iff.1 h).1]
      have hli : (12 : Int) < n.notes.length := by omega
      have hs : True := trivial
      repeat' first | (with_reducible first | refine q01 ?_ | refine q02 ?_ | refine q09 ?_ | refine q11 ?_ | refine q13 ?_ | refine q14 ?_ | refine q17 ?_) | (with_reducible refine At.fn_ret (by simp -dsimp [hli, hs]; exact rfl) ?_) | (refine CallE.pure (c1) ?_; try simp -dsimp [hli, hs]) | (with_reducible refine DT_regionE [0,1,2,3,4,5,6,7,8,9,11,19,24,30,31,32,33,37,38,39,46,50,71] ?_; simp -dsimp [hli, hs]) | (refine DT_cond rfl (fun h => ?_) (fun h => ?_) <;> (try simp only [nrm] at h) <;> (try exact Bool.noConfusion h))
      all_goals try simp -dsimp [hli, hs]
      all_goals try clear hs
      all_goals simp [fileR, hE]
  · have hE : notesE n = checkR n.reg := by unfold notesE; rw [if_pos h0]
    have hs : True := trivial
    repeat' first | (with_reducible first | refine q01 ?_ | refine q02 ?_ | refine q09 ?_ | refine q11 ?_ | refine q13 ?_ | refine q17 ?_) | (with_reducible refine At.fn_ret (by simp -dsimp [h0, hs]; exact rfl) ?_) | (refine CallE.pure (c1) ?_; try simp -dsimp [h0, hs]) | (with_reducible refine DT_regionE [0,1,2,3,4,5,6,7,8,9,11,19,24,30,31,32,33,37,38,39,46,50,71] ?_; simp -dsimp [h0, hs]) | (refine DT_cond rfl (fun h => ?_) (fun h => ?_) <;> (try simp only [nrm] at h) <;> (try exact Bool.noConfusion h))
    all_goals try simp -dsimp [h0, hs]
    all_goals try clear hs
    all_goals simp [fileR, hE, h0]
end Go.Proofs
