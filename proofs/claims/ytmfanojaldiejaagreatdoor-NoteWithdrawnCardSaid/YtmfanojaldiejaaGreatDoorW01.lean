/- Part 31 of the proofs: laws and walks that hold without conditions beyond those that each theorem names. -/
import Derived.Test.YtmfanojaldiejaaGreatDoorA23
import Derived.Test.YtmfanojaldiejaaGreatDoorA24
import Derived.Test.YtmfanojaldiejaaGreatDoorA25
import Derived.Test.YtmfanojaldiejaaGreatDoorA26
import Derived.Test.YtmfanojaldiejaaGreatDoorA27
set_option linter.all false
set_option linter.deprecated false
namespace Go.Proofs
open Go Go.Ab
end Go.Proofs
namespace Go.Proofs
open Go Go.Ab
set_option linter.unusedSimpArgs false
variable {G : Nat → Option (List IC)}
def setN (n : Notes) (i : Nat) (v : Int) : Notes := ⟨n.reg, setSg n.notes i v⟩
theorem setSg_mem {l : List Note} {i : Nat} {v : Int} {y : Note} (h : y ∈ setSg l i v) : ∃ x ∈ l, y = x ∨ y = sgn x v := by
  obtain ⟨j, hj⟩ := List.mem_iff_getElem?.1 h
  obtain ⟨x, h1, h2⟩ := setSg_at hj
  refine ⟨x, List.mem_of_getElem? h1, ?_⟩
  split at h2
  · exact .inr h2
  · exact .inl h2
theorem NKind.set {n : Notes} (hk : NKind n) {i : Nat} {v : Int} (hv : 0 ≤ v ∧ v ≤ 2) : NKind (setN n i v) := by
  refine ⟨hk.1, fun y hy => ?_⟩
  obtain ⟨x, hx, h⟩ := setSg_mem hy
  have := hk.2 x hx
  rcases h with rfl | rfl
  · exact this
  · exact ⟨this.1, this.2.1, by simp [sgn]; omega, by simp [sgn]; omega⟩
theorem RF.set {n : Notes} (R : RF n) (hk : NKind n) {i : Nat} {x : Note} (hx : n.notes[i]? = some x) {v : Int} (hv : 0 ≤ v ∧ v ≤ 2) (h1 : v ≠ 1) : readyB (setN n i v) = true := by
  have hl : (setSg n.notes i v).length = n.notes.length := setSg_len _ _ _
  have h0 : smallNB (setN n i v) = true := by
    unfold smallNB
    rw [Bool.and_eq_true]
    exact ⟨decide_eq_true R.sn.1, decide_eq_true (by show (setSg n.notes i v).length ≤ 16; rw [hl]; exact R.sn.2)⟩
  have h2 : notesE (setN n i v) = 0 := by
    unfold notesE
    rw [if_neg (by simp [setN, R.c]), if_pos]
    refine notesB_iff.2 ⟨by show (setSg n.notes i v).length ≤ 12; rw [hl]; exact R.l, allOk_set R.ok hv i, ?_⟩
    have := open_list R.ok hx hv h1
    rw [← isortL, show (setN n i v).notes = setSg n.notes i v from rfl, this]
    exact Nat.le_trans (List.length_filter_le _ _) R.o5
  simp [readyB, h0, h2]
end Go.Proofs
namespace Go.Proofs
open Go Go.Ab
def drawL (l : List Note) (w : List Int) : List Note := l.map fun x => if x.number ∈ w then sgn x 0 else x
theorem strip_draw (l : List Note) (w : List Int) : strip (drawL l w) = strip l := by
  simp only [strip, drawL, List.map_map]
  refine List.map_congr_left fun x _ => ?_
  simp only [Function.comp_apply]
  split <;> rfl
theorem drawL_at {l : List Note} {w : List Int} {j : Nat} {y : Note} (h : (drawL l w)[j]? = some y) : ∃ x, l[j]? = some x ∧ y = if x.number ∈ w then sgn x 0 else x := by
  simp only [drawL, List.getElem?_map, Option.map_eq_some_iff] at h
  obtain ⟨x, h1, h2⟩ := h
  exact ⟨x, h1, h2.symm⟩
theorem frc_draw (n : Notes) (s w : List Int) (m : Int) : frcL (s.filter fun a => decide (a ∉ w)) [] m (drawL n.notes w) = frcL s w m n.notes := by
  refine frcL_ext (strip_draw _ _) fun j y x hy hx => ?_
  obtain ⟨z, h1, h2⟩ := drawL_at hy
  rw [hx] at h1; cases h1
  by_cases hw : x.number ∈ w
  · rw [if_pos hw] at h2
    subst h2
    simp [frcB, sgn, hw]
  · rw [if_neg hw] at h2
    subst h2
    simp [frcB, hw]
theorem rawM_strip (l : List Note) : rawM (strip l) = rawM l := by
  simp only [rawM, strip, List.flatMap_map]; rfl
theorem marks_draw (l : List Note) (w : List Int) : marksP (drawL l w) = marksP l := by
  unfold marksP; rw [← rawM_strip, strip_draw, rawM_strip]
theorem numAt_strip (l : List Note) (i : Nat) : numAt (strip l) i = numAt l i := by
  unfold numAt; rw [strip_at]; cases l[i]? <;> rfl
theorem clOk_draw (n : Notes) (s w : List Int) (a b : Nat) : clOk ⟨n.reg, drawL n.notes w⟩ (s.filter fun a => decide (a ∉ w)) [] a b = clOk n s w a b := by
  have hb : bothB ⟨n.reg, drawL n.notes w⟩ (s.filter fun a => decide (a ∉ w)) [] a b = bothB n s w a b := by
    unfold bothB frcAt
    simp only [marks_draw, frc_draw]
  unfold clOk
  rw [hb]
  have e : ∀ j : Nat, (drawL n.notes w)[j]? = (n.notes[j]?).map fun x => if x.number ∈ w then sgn x 0 else x := fun j => by simp only [drawL, List.getElem?_map]
  dsimp only
  simp only [e]
  cases n.notes[a]? with
  | none => rfl
  | some x => cases n.notes[b]? with
    | none => rfl
    | some y =>
      have h1 : ∀ z : Note, (if z.number ∈ w then sgn z 0 else z).drawing = z.drawing := fun z => by split <;> rfl
      have h2 : ∀ z : Note, (if z.number ∈ w then sgn z 0 else z).letter = z.letter := fun z => by split <;> rfl
      simp only [Option.map_some, h1, h2]
theorem clash_draw (n : Notes) (s w : List Int) : clashL ⟨n.reg, drawL n.notes w⟩ (s.filter fun a => decide (a ∉ w)) [] = clashL n s w := by
  have hl : (drawL n.notes w).length = n.notes.length := by simp [drawL]
  have hn : ∀ j, numAt (drawL n.notes w) j = numAt n.notes j := fun j => by rw [← numAt_strip, strip_draw, numAt_strip]
  unfold clashL clTo clRow
  simp only [hl, clOk_draw, hn]
end Go.Proofs
namespace Go.Proofs
open Go Go.Ab
set_option linter.unusedSimpArgs false
variable {G : Nat → Option (List IC)}
def drF (w : List Int) (x : Note) : Note := if x.number ∈ w then sgn x 0 else x
def drTo (L : List Note) (w : List Int) (k : Nat) : List Note := (L.take k).map (drF w) ++ L.drop k
theorem drTo_zero (L : List Note) (w : List Int) : drTo L w 0 = L := by simp [drTo]
theorem drTo_all (L : List Note) (w : List Int) : drTo L w L.length = drawL L w := by simp [drTo, drawL, drF]
theorem drTo_len {L : List Note} {w : List Int} {k : Nat} (h : k ≤ L.length) : (drTo L w k).length = L.length := by simp [drTo]; omega
theorem drTo_at {L : List Note} {w : List Int} {k : Nat} (h : k < L.length) : (drTo L w k)[k]? = some L[k] := by
  unfold drTo
  rw [List.getElem?_append_right (by simp; omega)]
  simp [Nat.min_eq_left (Nat.le_of_lt h), h]
theorem drTo_succ {L : List Note} {w : List Int} {k : Nat} (h : k < L.length) : drTo L w (k + 1) = (drTo L w k).set k (drF w L[k]) := by
  unfold drTo
  rw [List.take_succ_eq_append_getElem h, List.map_append, List.map_singleton, List.append_assoc, List.singleton_append]
  rw [List.set_append_right _ _ (by simp; omega)]
  rw [List.length_map, List.length_take, Nat.min_eq_left (Nat.le_of_lt h), Nat.sub_self]
  rw [List.drop_eq_getElem_cons h, List.set_cons_zero]
theorem setSame {α : Type} {l : List α} {k : Nat} {x : α} (h : l[k]? = some x) : l.set k x = l := by
  obtain ⟨h1, h2⟩ := List.getElem?_eq_some_iff.1 h
  rw [← h2, List.set_getElem_self]
set_option maxHeartbeats 4000000 in
theorem withdrawn_c (n : Notes) (w : List Int) (hsn : SmallN n) (hwl : w.length < 1000) (objs : List DObj) : DCall Tryz.prog G 33 [notesv n, isv w] objs (fun rr objs' => rr = notesv ⟨n.reg, drawL n.notes w⟩ ∧ objs' = objs) := by
  refine DCall.frame ?_ (by simp) (by simp) objs
  refine DCall_intro Tryz.func33 rfl Tryz.ntmps33 (by simp) rfl ?_
  try simp only [notesv, isv]
  have c2 := twin3N_c (G := G) n hsn
  have hn16 := hsn.2
  have hs : True := trivial
  repeat' first | (with_reducible first | refine q01 ?_ | refine q11 ?_ | refine q12 ?_) | (refine CallE.embed [] (c2) ?_ ?_ ?_ ?_ ?_ ?_; (focus (simp [emb]; done)); (focus (simp; done)); (focus (simp; done)); (focus (simp; done)); (focus (refine emb_all ?_; simp [emb, embAll]; done)); try simp -dsimp [mergeO, emb, hs]) | (with_reducible refine DT_regionE [0,1,2,4,5,6,11,12,13,22] ?_; simp -dsimp [hs])
  all_goals try simp -dsimp [hs]
  all_goals try clear hs
  refine DT_loop (ι := { k : Nat // k ≤ n.notes.length }) (fun p => ⟨30, [(1, isv w), (4, .one (.ptr 3 0)), (5, .one (.ptr 11 0)), (11, iv (n.notes.length : Int)), (12, iv (p.1 : Int))], [.row ((encNotes n).map .im), .vec 0 [] 0 true, .vec 0 [] 0 true, .row [.vec 1 0 0 0, .vec 2 0 0 0], .row ((encNotes n).map .im), .vec 0 [] 0 true, .vec 0 [] 0 true, .row [.im (.sl (n.reg.map encIssue)), .vec 8 1 0 n.notes.length], .vec 10 (ims ((drTo n.notes w p.1).map encNote)) 1 false, .vec 0 [] 0 true, .vec 0 [] 0 true, .row [.im (.sl (n.reg.map encIssue)), .vec 8 1 0 n.notes.length]]⟩) (fun p => n.notes.length - p.1) ⟨0, by simp⟩ (Weak.of_keep [1,4,5,11,12] (by simp [drTo_zero])) ?_
  rintro ⟨k, hk⟩
  simp only [iv, isv]
  have hil := drTo_len (w := w) hk
  by_cases hlt : k < n.notes.length
  · have hw : IntKind.i64.wrap ((k : Int) + 1) = ((k + 1 : Nat) : Int) := i64w (by omega) (by omega)
    have hat := drTo_at (w := w) hlt
    have hsu := drTo_succ (w := w) hlt
    generalize hy : n.notes[k] = y at *
    have c1 := hasL_c (G := G) w y.number (by omega)
    generalize drTo n.notes w k = S at *
    have hiS : k < S.length := by omega
    have hat2 : S[k] = y := (List.getElem?_eq_some_iff.1 hat).2
    by_cases hm : y.number ∈ w
    · have hV : ims ((drTo n.notes w (k + 1)).map encNote) = (ims (S.map encNote)).set k ((encNote (sgn y 0)).map .im) := by rw [hsu, List.map_set, imsSet, drF, if_pos hm]
      rw [decide_eq_true hm] at c1
      have hs : True := trivial
      repeat' first | (with_reducible first | refine q01 ?_ | refine q04 ?_ | refine q11 ?_ | refine q12 ?_ | refine q14 ?_) | (refine CallE.pure (c1) ?_; try simp -dsimp [hlt, hw, hat, hat2, hiS, hil, hs]) | (with_reducible refine DT_regionE [0,1,2,4,5,6,11,12,13,22] ?_; simp -dsimp [hlt, hw, hat, hat2, hiS, hil, hs]) | (refine DT_cond rfl (fun h => ?_) (fun h => ?_) <;> (try simp only [nrm] at h) <;> (try exact Bool.noConfusion h))
      all_goals try simp -dsimp [hlt, hw, hat, hat2, hiS, hil, hs]
      all_goals try clear hs
      all_goals exact At.round ⟨k + 1, by omega⟩ (by simp only; omega) (Weak.of_keep [1,4,5,11,12] (by simp [hV, sgn]))
    · have hV : drTo n.notes w (k + 1) = S := by rw [hsu, drF, if_neg hm]; exact setSame hat
      rw [decide_eq_false hm] at c1
      have hs : True := trivial
      repeat' first | (with_reducible first | refine q01 ?_ | refine q04 ?_ | refine q11 ?_ | refine q12 ?_ | refine q14 ?_) | (refine CallE.pure (c1) ?_; try simp -dsimp [hlt, hw, hat, hat2, hiS, hil, hs]) | (with_reducible refine DT_regionE [0,1,2,4,5,6,11,12,13,22] ?_; simp -dsimp [hlt, hw, hat, hat2, hiS, hil, hs]) | (refine DT_cond rfl (fun h => ?_) (fun h => ?_) <;> (try simp only [nrm] at h) <;> (try exact Bool.noConfusion h))
      all_goals try simp -dsimp [hlt, hw, hat, hat2, hiS, hil, hs]
      all_goals try clear hs
      all_goals exact At.round ⟨k + 1, by omega⟩ (by simp only; omega) (Weak.of_keep [1,4,5,11,12] (by simp [hV]))
  · obtain rfl : k = n.notes.length := by omega
    rw [drTo_all] at *
    have hdl : (drawL n.notes w).length = n.notes.length := by simp [drawL]
    have hs : True := trivial
    repeat' first | (with_reducible first | refine q01 ?_ | refine q03 ?_ | refine q06 ?_ | refine q11 ?_ | refine q16 ?_ | refine q17 ?_) | (with_reducible refine At.fn_ret (by simp -dsimp [hlt, hdl, hs]; exact rfl) ?_) | (with_reducible refine DT_regionE [0,1,2,4,5,6,11,12,13,22] ?_; simp -dsimp [hlt, hdl, hs]) | (refine DT_cond rfl (fun h => ?_) (fun h => ?_) <;> (try simp only [nrm] at h) <;> (try exact Bool.noConfusion h))
    all_goals try simp -dsimp [hlt, hdl, hs]
    all_goals try clear hs
    all_goals simp [← hdl]
end Go.Proofs
namespace Go.Proofs
open Go Go.Ab
theorem frcL_none {s w : List Int} {m : Int} : ∀ (l : List Note), (∀ x ∈ l, x.number ∈ w) → frcL s w m l = List.replicate l.length false
  | [], _ => rfl
  | x :: l, h => by
    have ih := frcL_none (s := s) (m := m) l fun y hy => h y (by simp [hy])
    have hx := h x (by simp)
    simp only [frcL, ih, List.length_cons, List.replicate_succ]
    simp [frcB, hx]
theorem clN_all {n : Notes} {s w : List Int} (h : ∀ x ∈ n.notes, x.number ∈ w) : clN n s w = true := by
  have hf : ∀ m a, frcAt n s w m a = false := fun m a => by
    unfold frcAt
    rw [frcL_none _ h, List.getElem?_replicate]
    split <;> rfl
  have hb : ∀ a b, clOk n s w a b = false := fun a b => by
    have : bothB n s w a b = false := by unfold bothB; simp [hf]
    simp [clOk, this]
  have e : clashL n s w = [] := by
    unfold clashL clTo
    rw [List.flatMap_eq_nil_iff]
    intro a _
    unfold clRow
    simp [hb]
  unfold clN; rw [e]; rfl
theorem wS_spec {n : Notes} (hok : allOk n) (s : List Int) : (wS n s).Sublist (isort (n.notes.map fun x => x.number)) ∧ clN n s (wS n s) = true ∧ ∀ z : List Int, z.Sublist (isort (n.notes.map fun x => x.number)) → clN n s z = true → befL z (wS n s) = false := by
  have hA := isort_strict (nums_nodup hok)
  have hl : (isort (n.notes.map fun x => x.number)).length = n.notes.length := by rw [isort_len, List.length_map]
  cases h : sizesL (clN n s) (isort (n.notes.map fun x => x.number)) (n.notes.length + 1) with
  | none =>
    have h1 := sizesL_none _ h (isort (n.notes.map fun x => x.number)) (List.Sublist.refl _) (by omega)
    rw [clN_all fun x hx => isort_mem.2 (List.mem_map.2 ⟨x, hx, rfl⟩)] at h1
    cases h1
  | some x =>
    have h1 := sizesL_some hA _ _ h
    have e : wS n s = x := by unfold wS; rw [h]; rfl
    rw [e]; exact h1
theorem wS_rising {n : Notes} (hok : allOk n) (s : List Int) : (wS n s).Pairwise (· < ·) := (isort_strict (nums_nodup hok)).sublist (wS_spec hok s).1
theorem wS_nil {n : Notes} (hok : allOk n) (s : List Int) : wS n s = [] ↔ (clashL n s []).length = 0 := by
  obtain ⟨_, h2, h3⟩ := wS_spec hok s
  constructor
  · intro h
    rw [h] at h2
    simpa [clN] using h2
  · intro h
    have h4 := h3 [] (by simp) (by simp [clN, h])
    unfold befL at h4
    split at h4
    · rename_i e
      exact List.eq_nil_of_length_eq_zero e.symm
    · rw [decide_eq_false_iff_not] at h4
      exact List.eq_nil_of_length_eq_zero (by rw [List.length_nil] at h4; omega)
end Go.Proofs
namespace Go.Proofs
open Go Go.Ab
structure SegOk (f : Int → Int) (k : Int) (L : List Str) : Prop where
  last : ∃ y, L.getLast? = some y ∧ y.to = k
  first : ∀ y, L[0]? = some y → y.frm = 1
  each : ∀ (i : Nat) (y : Str), L[i]? = some y → 1 ≤ y.frm ∧ y.frm ≤ y.to ∧ y.to ≤ k ∧ ∀ m, y.frm ≤ m → m ≤ y.to → f m = y.letter
  next : ∀ (i : Nat) (y z : Str), L[i]? = some y → L[i + 1]? = some z → y.to + 1 = z.frm ∧ y.letter ≠ z.letter
end Go.Proofs
namespace Go.Proofs
open Go Go.Ab
theorem count_set {F : List Bool} {i : Nat} (h : F[i]? = some true) : (F.set i false).count true + 1 = F.count true := by
  induction F generalizing i with
  | nil => simp at h
  | cons f F ih =>
    cases i with
    | zero => simp at h; subst h; simp
    | succ i =>
      have := ih (by simpa using h)
      simp only [List.set_cons_succ, List.count_cons]
      omega
end Go.Proofs
namespace Go.Proofs
open Go Go.Ab
set_option linter.unusedSimpArgs false
variable {G : Nat → Option (List IC)}
theorem drTo_setSg {L : List Note} {w : List Int} {k : Nat} (h : k < L.length) : drTo L w (k + 1) = if L[k].number ∈ w then setSg (drTo L w k) k 0 else drTo L w k := by
  rw [drTo_succ h]
  have h1 := drTo_at (w := w) h
  unfold drF
  split
  · unfold setSg; rw [h1]
  · exact setSame h1
theorem allOk_draw {n : Notes} (hok : allOk n) (w : List Int) : allOk ⟨n.reg, drawL n.notes w⟩ := by
  have : ∀ k, k ≤ n.notes.length → allOk ⟨n.reg, drTo n.notes w k⟩ := by
    intro k
    induction k with
    | zero => intro _; rw [drTo_zero]; exact hok
    | succ k ih =>
      intro h
      rw [drTo_setSg (by omega)]
      split
      · exact allOk_set (n := ⟨n.reg, drTo n.notes w k⟩) (ih (by omega)) (by omega) k
      · exact ih (by omega)
  have h := this _ (Nat.le_refl _)
  rwa [drTo_all] at h
theorem drawL_get (l : List Note) (w : List Int) (k : Nat) : (drawL l w)[k]? = (l[k]?).map (drF w) := by rw [show drawL l w = l.map (drF w) from rfl, List.getElem?_map]
theorem drF_number (w : List Int) (x : Note) : (drF w x).number = x.number := by unfold drF; split <;> rfl
theorem open_draw {l : List Note} {w : List Int} {a : Int} : a ∈ openL (drawL l w) ↔ a ∈ openL l ∧ a ∉ w := by
  rw [open_mem, open_mem]
  constructor
  · rintro ⟨k, y, h1, h2, h3⟩
    rw [drawL_get, Option.map_eq_some_iff] at h1
    obtain ⟨x, h4, rfl⟩ := h1
    rw [drF_number] at h2
    by_cases hw : x.number ∈ w
    · simp [drF, hw, sgn] at h3
    · simp only [drF, if_neg hw] at h3
      exact ⟨⟨k, x, h4, h2, h3⟩, h2 ▸ hw⟩
  · rintro ⟨⟨k, x, h1, h2, h3⟩, hw⟩
    refine ⟨k, x, ?_, h2, h3⟩
    rw [drawL_get, h1, Option.map_some, drF, if_neg (by rw [h2]; exact hw)]
theorem open_drawL {n : Notes} (hok : allOk n) (w : List Int) : isort (openL (drawL n.notes w)) = (isort (openL n.notes)).filter fun a => decide (a ∉ w) := by
  refine strict_eq (isort_strict (openL_nodup (allOk_draw hok w))) ((isort_strict (openL_nodup hok)).filter _) fun a => ?_
  rw [isort_mem, open_draw, List.mem_filter, isort_mem, decide_eq_true_eq]
theorem NKind.draw {n : Notes} (hk : NKind n) (w : List Int) : NKind ⟨n.reg, drawL n.notes w⟩ := by
  refine ⟨hk.1, fun y hy => ?_⟩
  obtain ⟨k, hy⟩ := List.mem_iff_getElem?.1 hy
  rw [show (Notes.mk n.reg (drawL n.notes w)).notes = drawL n.notes w from rfl, drawL_get, Option.map_eq_some_iff] at hy
  obtain ⟨x, h1, rfl⟩ := hy
  have := hk.2 x (List.mem_of_getElem? h1)
  unfold drF
  split
  · exact ⟨this.1, this.2.1, by simp [sgn], by simp [sgn]⟩
  · exact this
theorem drawL_len (l : List Note) (w : List Int) : (drawL l w).length = l.length := by simp [drawL]
theorem RF.draw {n : Notes} (R : RF n) (w : List Int) : readyB ⟨n.reg, drawL n.notes w⟩ = true := by
  have hl := drawL_len n.notes w
  have h0 : smallNB ⟨n.reg, drawL n.notes w⟩ = true := by
    unfold smallNB
    rw [Bool.and_eq_true]
    exact ⟨decide_eq_true R.sn.1, decide_eq_true (by show (drawL n.notes w).length ≤ 16; rw [hl]; exact R.sn.2)⟩
  have h2 : notesE ⟨n.reg, drawL n.notes w⟩ = 0 := by
    unfold notesE
    rw [if_neg (by simp [R.c]), if_pos]
    refine notesB_iff.2 ⟨by show (drawL n.notes w).length ≤ 12; rw [hl]; exact R.l, allOk_draw R.ok w, ?_⟩
    have := open_drawL R.ok w
    rw [← isortL, this]
    exact Nat.le_trans (List.length_filter_le _ _) R.o5
  simp [readyB, h0, h2]
theorem RF.left {n : Notes} (R : RF n) {t : List Int} (ht : t.Sublist (isort (openL n.notes))) (w : List Int) : (t.filter fun a => decide (a ∉ w)).Sublist (isort (openL (drawL n.notes w))) := by
  rw [open_drawL R.ok]; exact ht.filter _
end Go.Proofs
namespace Go.Proofs
open Go Go.Ab
end Go.Proofs
namespace Go.Ab
open Go
theorem bit_at16 (s i : Nat) : IntKind.u16.wrap ((BitVec.ofInt 16 ((s : Int).fdiv (2 ^ i)) &&& BitVec.ofInt 16 1).toNat : Int) = if s.testBit i = true then 1 else 0 := by
  have e1 : (s : Int).fdiv (2 ^ i) = ((s / 2 ^ i : Nat) : Int) := by
    rw [Int.fdiv_eq_ediv_of_nonneg _ (by exact Int.pow_nonneg (by omega))]
    simp
  have e2 : (BitVec.ofInt 16 ((s / 2 ^ i : Nat) : Int) &&& BitVec.ofInt 16 1).toNat = (s / 2 ^ i) % 2 := by
    have h1 : (BitVec.ofInt 16 1) = 1#16 := by decide
    rw [h1, BitVec.ofInt_natCast, BitVec.toNat_and, BitVec.toNat_ofNat, BitVec.toNat_ofNat]
    rw [show (1 % 2 ^ 16 : Nat) = 1 by decide, Nat.and_one_is_mod]
    omega
  rw [e1, e2, Nat.testBit_eq_decide_div_mod_eq]
  rcases Nat.mod_two_eq_zero_or_one (s / 2 ^ i) with h | h
  · rw [h]; simp; decide
  · rw [h]; simp; decide
end Go.Ab
namespace Go.Proofs
open Go Go.Ab
def insV (A rest : List Int) (x : Int) (k : Nat) : List Int := A.take k ++ x :: (A.drop k ++ rest)
theorem insV_len (A rest : List Int) (x : Int) (k : Nat) : (insV A rest x k).length = A.length + 1 + rest.length := by
  simp [insV]; omega
theorem insV_at {A rest : List Int} {x : Int} {k : Nat} (h : k ≤ A.length) : (insV A rest x k)[k]? = some x := by
  unfold insV
  rw [List.getElem?_append_right (by simp; omega)]
  simp [Nat.min_eq_left h]
theorem insV_prev {A rest : List Int} {x : Int} {k : Nat} (h : k + 1 ≤ A.length) : (insV A rest x (k + 1))[k]? = A[k]? := by
  unfold insV
  rw [List.getElem?_append_left (by simp; omega), List.getElem?_take_of_lt (by omega)]
theorem insV_swap {A rest : List Int} {x a : Int} {k : Nat} (ha : A[k]? = some a) : ((insV A rest x (k + 1)).set (k + 1) a).set k x = insV A rest x k := by
  obtain ⟨h, e⟩ := List.getElem?_eq_some_iff.1 ha
  unfold insV
  rw [List.take_succ_eq_append_getElem h, e, List.append_assoc, List.singleton_append]
  rw [List.set_append_right _ _ (by simp; omega), List.set_append_right _ _ (by simp; omega)]
  rw [List.length_take, Nat.min_eq_left (by omega), Nat.sub_self, show k + 1 - k = 1 by omega]
  simp only [List.set_cons_succ, List.set_cons_zero]
  rw [List.drop_eq_getElem_cons h, e, List.cons_append]
theorem insV_start {W : List Int} {x : Int} {i : Nat} (h : W[i]? = some x) : insV (W.take i) (W.drop (i + 1)) x i = W := by
  obtain ⟨hl, e⟩ := List.getElem?_eq_some_iff.1 h
  unfold insV
  rw [List.take_take, Nat.min_self, List.drop_take, Nat.sub_self, List.take_zero, List.nil_append, ← e, ← List.drop_eq_getElem_cons hl, List.take_append_drop]
theorem insV_perm (A rest : List Int) (x : Int) (k : Nat) : (insV A rest x k).Perm (A ++ x :: rest) := by
  unfold insV
  have h1 : (A.take k ++ x :: (A.drop k ++ rest)).Perm (x :: (A.take k ++ (A.drop k ++ rest))) := List.perm_middle
  rw [← List.append_assoc, List.take_append_drop] at h1
  exact h1.trans List.perm_middle.symm
theorem insV_sorted {A rest : List Int} {x : Int} {k : Nat} (hA : A.Pairwise (· < ·)) (hk : k ≤ A.length) (h1 : ∀ y ∈ A.drop k, x < y) (h2 : ∀ a, k ≠ 0 → A[k - 1]? = some a → a < x) : ((insV A rest x k).take (A.length + 1)).Pairwise (· < ·) := by
  have e : (insV A rest x k).take (A.length + 1) = A.take k ++ x :: A.drop k := by
    unfold insV
    have : A.take k ++ x :: (A.drop k ++ rest) = (A.take k ++ x :: A.drop k) ++ rest := by simp
    rw [this, List.take_append_of_le_length (by simp; omega), List.take_of_length_le (by simp; omega)]
  rw [e, List.pairwise_append]
  have hA2 := hA
  rw [← List.take_append_drop k A, List.pairwise_append] at hA2
  refine ⟨hA2.1, List.pairwise_cons.2 ⟨h1, hA2.2.1⟩, fun a ha b hb => ?_⟩
  rcases List.mem_cons.1 hb with rfl | hb
  · have hk0 : k ≠ 0 := fun e => by subst e; simp at ha
    have hl : k - 1 < A.length := by omega
    have hlast := h2 A[k - 1] hk0 (List.getElem?_eq_getElem hl)
    obtain ⟨j, hj⟩ := List.mem_iff_getElem?.1 ha
    obtain ⟨hj1, hj2⟩ := List.getElem?_eq_some_iff.1 hj
    rw [List.length_take] at hj1
    rw [List.getElem_take] at hj2
    by_cases ej : j = k - 1
    · subst ej; rw [← hj2]; exact hlast
    · have := List.pairwise_iff_getElem.1 hA j (k - 1) (by omega) hl (by omega)
      omega
  · exact hA2.2.2 a ha b hb
theorem strict_sub {W N : List Int} (hW : W.Pairwise (· < ·)) (hN : N.Pairwise (· < ·)) (h : ∀ x ∈ W, x ∈ N) : W.Sublist N := by
  have : W = N.filter fun x => decide (x ∈ W) := strict_eq hW (hN.filter _) fun x => by
    rw [List.mem_filter, decide_eq_true_eq]
    exact ⟨fun hx => ⟨h x hx, hx⟩, And.right⟩
  rw [this]; exact List.filter_sublist
end Go.Proofs
namespace Go.Proofs
open Go Go.Ab
set_option linter.unusedSimpArgs false
variable {G : Nat → Option (List IC)}
set_option maxRecDepth 100000 in
set_option maxHeartbeats 8000000 in
theorem noteWithdrawn_c (n : Notes) (b s : Nat) (hG : sheetG G) (hN : noteG G) (hS : SortOk G) (hk : NKind n) (hb : b < 256) (hs' : s < 65536) (objs : List DObj) : DCall Tryz.prog G 7 [notesv n, u8V (b : Int), u16v (s : Int)] objs (fun rr objs' => rr = bv true ∧ objs' = objs) := by
  refine DCall.frame ?_ (by simp) (by simp) objs
  refine DCall_intro Tryz.func7 rfl Tryz.ntmps7 (by simp) rfl ?_
  try simp only [notesv]
  have c1 := alive_c hG hN hS
  have c2 := ready_c (G := G) n hk
  cases hq : readyB n
  · rw [hq] at c2
    have hs : True := trivial
    repeat' first | (with_reducible first | refine q01 ?_ | refine q02 ?_ | refine q11 ?_ | refine q17 ?_) | (with_reducible refine At.fn_ret (by simp -dsimp [hs]; exact rfl) ?_) | (refine CallE.pure (c1) ?_; try simp -dsimp [hs]) | (refine CallE.pure (c2) ?_; try simp -dsimp [hs]) | (with_reducible refine DT_regionE [0,1,2,3,6,7,8,9,10,11,12,13,14,15,16,17,18,19,20,21,22,30,47,83,85,86,87,88,96,104,105,106,122] ?_; simp -dsimp [hs]) | (refine DT_cond rfl (fun h => ?_) (fun h => ?_) <;> (try simp only [nrm] at h) <;> (try exact Bool.noConfusion h))
    all_goals try simp -dsimp [hs]
    all_goals try clear hs
  · have R := readyRF hk hq
    rw [hq] at c2
    have c3 := truthOf_c (G := G) n b R.s R.ok (by rw [← isortL]; exact R.o5) hb
    rw [← truthAt'] at c3
    have hsub := R.sub b
    have hsl := R.len b
    have hl12 := R.l
    generalize truthAt' n b = t at *
    have hA1 := R.asked hsub (m := 1) (by omega) (by omega)
    have c4 := nWithdraw_c n t hG hN hS R.s hsl
    rw [show wE n t = wS n t by unfold wE; rw [if_pos hA1], hA1] at c4
    obtain ⟨f1, f2, f3⟩ := wS_spec R.ok t
    have f4 := wS_rising R.ok t
    have f5 := wS_nil R.ok t
    have hNl : (isort (n.notes.map fun x => x.number)).length = n.notes.length := by rw [isort_len, List.length_map]
    have hLl : (wS n t).length ≤ 12 := by have := f1.length_le; omega
    have c5 := rising_c (G := G) (wS n t) (by omega) f4
    have c9 := nClash_c n t hG hN hS R.s hsl
    rw [show clashR n t = clashL n t [] by unfold clashR; rw [if_pos hA1], hA1] at c9
    have c10 : ∀ W : List Int, W.length ≤ 12 → ∀ objs, DCall Tryz.prog G 33 [notesv n, isv W] objs (fun rr o => rr = notesv ⟨n.reg, drawL n.notes W⟩ ∧ o = objs) := fun W h => withdrawn_c (G := G) n W R.sn (by omega)
    have c11 : ∀ W : List Int, W.length ≤ 12 → ∀ objs, DCall Tryz.prog G 34 [isv t, isv W] objs (fun rr o => rr = isv (t.filter fun a => decide (a ∉ W)) ∧ o = objs) := fun W h => left_c (G := G) t W hsl (by omega)
    have c12 : ∀ W : List Int, ∀ objs, DCall Tryz.prog G 32 [notesv ⟨n.reg, drawL n.notes W⟩, isv (t.filter fun a => decide (a ∉ W))] objs (fun rr o => rr = .tup [prv (clashL n t W), iv 0] ∧ o = objs) := fun W => by
      have RO := readyRF (hk.draw W) (R.draw W)
      have hso := R.left hsub W
      have := nClash_c (G := G) ⟨n.reg, drawL n.notes W⟩ (t.filter fun a => decide (a ∉ W)) hG hN hS RO.s (by have := List.length_filter_le (fun a => decide (a ∉ W)) t; omega)
      have hA := RO.asked hso (m := 1) (by omega) (by omega)
      rwa [show clashR ⟨n.reg, drawL n.notes W⟩ (t.filter fun a => decide (a ∉ W)) = clashL n t W by unfold clashR; rw [if_pos hA, clash_draw], hA] at this
    have c13 : ∀ W : List Int, W.length ≤ 12 → ∀ objs, DCall Tryz.prog G 35 [isv W, isv (wS n t)] objs (fun rr o => rr = bv (befL W (wS n t)) ∧ o = objs) := fun W h => before3_c (G := G) W (wS n t) (by omega) (by omega)
    have f6 : ∀ W : List Int, W.Pairwise (· < ·) → (∀ x ∈ W, x ∈ n.notes.map fun x => x.number) → (clashL n t W).length = 0 → befL W (wS n t) = false := fun W h1 h2 h3 => f3 W (strict_sub h1 (isort_strict (nums_nodup R.ok)) fun x hx => isort_mem.2 (h2 x hx)) (by unfold clN; rw [decide_eq_true h3])
    have f7 : clashL n t (wS n t) = [] := List.eq_nil_of_length_eq_zero (by simpa [clN] using f2)
    have d6 := c10 (wS n t) hLl
    have d7 := c11 (wS n t) hLl
    have d8 := c12 (wS n t)
    rw [f7] at d8
    have hnd := nums_nodup R.ok
    have hnl : (n.notes.map fun x => x.number).length = n.notes.length := List.length_map _
    have hng : ∀ k (h : k < n.notes.length), (n.notes.map fun x => x.number).getD k 0 = n.notes[k].number := fun k h => by simp [h]
    have f8 : decide ((clashL n t []).length = 0) = decide ((wS n t).length = 0) := by
      rw [decide_eq_decide, ← f5]; exact List.length_eq_zero_iff.symm
    have hCl : (clashL n t []).length < 1000000 := by
      have h1 := clTo_len n t [] n.notes.length
      have h2 : n.notes.length * n.notes.length ≤ 12 * 12 := Nat.mul_le_mul hl12 hl12
      show (clTo n t [] n.notes.length).length < 1000000
      omega
    generalize hN2 : (t.filter fun a => decide (a ∉ wS n t)) = t1 at *
    generalize hO2 : Notes.mk n.reg (drawL n.notes (wS n t)) = o1 at *
    clear hN2 hO2 f1 f2 f3 f4 f5 f7 hA1 hsub hG hN hS
    generalize wS n t = L at *
    generalize clashL n t [] = C at *
    have hs := True.intro
    have f9 : (C = [] ∧ L = []) ∨ (¬ C = [] ∧ ¬ L = []) := by
      rw [decide_eq_decide, List.length_eq_zero_iff, List.length_eq_zero_iff] at f8
      by_cases e : L = []
      · exact .inl ⟨f8.2 e, e⟩
      · exact .inr ⟨fun h => e (f8.1 h), e⟩
    clear f8
    generalize hNU : (n.notes.map fun x => x.number) = NU at *
    have f10 : ((C = []) = True ∧ (L = []) = True) ∨ ((C = []) = False ∧ (L = []) = False) := f9.elim (fun h => .inl ⟨eq_true h.1, eq_true h.2⟩) fun h => .inr ⟨eq_false h.1, eq_false h.2⟩
    clear f9
    rcases f10 with ⟨e1, e2⟩ | ⟨e1, e2⟩
    have hs : True := trivial
    repeat' first | (with_reducible first | refine q01 ?_ | refine q11 ?_ | refine q12 ?_ | refine q14 ?_) | (refine CallE.pure (c1) ?_; try simp -dsimp [e1, e2, hs]) | (refine CallE.pure (c2) ?_; try simp -dsimp [e1, e2, hs]) | (refine CallE.pure (c3) ?_; try simp -dsimp [e1, e2, hs]) | (refine CallE.pure (c4) ?_; try simp -dsimp [e1, e2, hs]) | (refine CallE.pure (c5) ?_; try simp -dsimp [e1, e2, hs]) | (refine CallE.pure (d6) ?_; try simp -dsimp [e1, e2, hs]) | (refine CallE.pure (d7) ?_; try simp -dsimp [e1, e2, hs]) | (refine CallE.pure (d8) ?_; try simp -dsimp [e1, e2, hs]) | (refine CallE.pure (c9) ?_; try simp -dsimp [e1, e2, hs]) | (with_reducible refine DT_regionE [0,1,2,3,6,7,8,9,10,11,12,13,14,15,16,17,18,19,20,21,22,30,47,83,85,86,87,88,96,104,105,106,122] ?_; simp -dsimp [e1, e2, hs]) | (refine DT_cond rfl (fun h => ?_) (fun h => ?_) <;> (try simp only [nrm] at h) <;> (try exact Bool.noConfusion h))
    all_goals try simp -dsimp [e1, e2, hs]
    all_goals try clear hs
    all_goals
      refine DT_loop (ι := { p : Nat × Nat // p.1 ≤ n.notes.length }) (fun p => ⟨169, [(2, u16v (s : Int)), (3, .one (.ptr 0 0)), (7, bv true), (8, isv t), (9, isv L), (15, .one (.vec 1 p.1.2 0 (selN NU s p.1.1).length)), (85, .one (.im (.sl (n.notes.map encNote)))), (86, iv (n.notes.length : Int)), (87, iv (p.1.1 : Int))], [.row ((encNotes n).map .im), .vec 1 (ims ((selN NU s p.1.1).map encI)) p.1.2 (selN NU s p.1.1).isEmpty]⟩) (fun p => n.notes.length - p.1.1) ⟨(0, 0), by simp⟩ (Weak.of_keep [2,3,7,8,9,15,85,86,87] (by simp [selN, e1, e2])) ?_
      rintro ⟨⟨k, g⟩, hk⟩
      simp only at hk
      simp only [iv, isv, bv, u16v]
      by_cases hlt : k < n.notes.length
      · have hw : IntKind.i64.wrap ((k : Int) + 1) = ((k + 1 : Nat) : Int) := i64w (by omega) (by omega)
        have hi16 : min k 16 = k := by omega
        have hin : ¬ ((k : Int) < 0) := by omega
        have hb16 : IntKind.u16.bits = 16 := rfl
        have hbit := bit_at16 s k
        have hsu := selN_succ NU s k
        rw [hng k hlt] at hsu
        have hSl := selN_len NU s k
        generalize hx : n.notes[k] = x at *
        generalize selN NU s k = S at *
        cases hb : s.testBit k
        · rw [hb] at hbit hsu
          simp at hbit
          rw [if_neg Bool.false_ne_true, List.append_nil] at hsu
          have hs : True := trivial
          repeat' first | (with_reducible first | refine q01 ?_ | refine q04 ?_ | refine q11 ?_ | refine q12 ?_ | refine q14 ?_) | (with_reducible refine DT_regionE [0,1,2,3,6,7,8,9,10,11,12,13,14,15,16,17,18,19,20,21,22,30,47,83,85,86,87,88,96,104,105,106,122] ?_; simp -dsimp [hx, hlt, hw, hin, hi16, hb16, hbit, hs]) | (refine DT_cond rfl (fun h => ?_) (fun h => ?_) <;> (try simp only [nrm] at h) <;> (try exact Bool.noConfusion h))
          all_goals try simp -dsimp [hx, hlt, hw, hin, hi16, hb16, hbit, hs]
          all_goals try clear hs
          all_goals exact At.round ⟨(k + 1, g), by omega⟩ (by simp only; omega) (Weak.of_drop [2,3,7,8,9,15,85,86,87] 2 (by simp) (by simp) (by simp [hsu]))
        · rw [hb] at hbit hsu
          simp at hbit
          rw [if_pos rfl] at hsu
          have hs : True := trivial
          repeat' first | (with_reducible first | refine q01 ?_ | refine q04 ?_ | refine q11 ?_ | refine q12 ?_ | refine q14 ?_ | refine And.intro (by omega) ?_) | (with_reducible refine DT_regionE [0,1,2,3,6,7,8,9,10,11,12,13,14,15,16,17,18,19,20,21,22,30,47,83,85,86,87,88,96,104,105,106,122] ?_; simp -dsimp [hx, hlt, hw, hin, hi16, hb16, hbit, hs]) | (refine DT_cond rfl (fun h => ?_) (fun h => ?_) <;> (try simp only [nrm] at h) <;> (try exact Bool.noConfusion h))
          all_goals try simp -dsimp [hx, hlt, hw, hin, hi16, hb16, hbit, hs]
          all_goals try clear hs
          all_goals exact At.round ⟨(k + 1, g + 1), by omega⟩ (by simp only; omega) (Weak.of_drop [2,3,7,8,9,15,85,86,87] 2 (by simp) (by simp) (by simp [hsu]))
      · obtain rfl : k = n.notes.length := by omega
        have hWn := selN_nodup (s := s) hnd (k := n.notes.length) (by omega)
        have hWm : ∀ x ∈ selN NU s n.notes.length, x ∈ NU := fun x hx => by
          obtain ⟨i, _, _, h⟩ := (selN_mem (by omega)).1 hx
          exact List.mem_of_getElem? h
        have hWl := selN_len NU s n.notes.length
        generalize selN NU s n.notes.length = W0 at *
        have hs : True := trivial
        repeat' first | (with_reducible first | refine q01 ?_ | refine q03 ?_ | refine q06 ?_ | refine q11 ?_ | refine q12 ?_ | refine q16 ?_) | (with_reducible refine DT_regionE [0,1,2,3,6,7,8,9,10,11,12,13,14,15,16,17,18,19,20,21,22,30,47,83,85,86,87,88,96,104,105,106,122] ?_; simp -dsimp [hlt, hs]) | (refine DT_cond rfl (fun h => ?_) (fun h => ?_) <;> (try simp only [nrm] at h) <;> (try exact Bool.noConfusion h))
        all_goals try simp -dsimp [hlt, hs]
        all_goals try clear hs
        refine DT_loop (ι := { p : Nat × List Int // p.1 ≤ p.2.length ∧ (p.2.take p.1).Pairwise (· < ·) ∧ p.2.Perm W0 }) (fun p => ⟨169, [(3, .one (.ptr 0 0)), (7, bv true), (8, isv t), (9, isv L), (15, .one (.vec 1 g 0 p.1.2.length)), (104, iv (p.1.2.length : Int)), (105, iv (p.1.1 : Int))], [.row ((encNotes n).map .im), .vec 1 (ims (p.1.2.map encI)) g W0.isEmpty]⟩) (fun p => p.1.2.length - p.1.1) ⟨(0, W0), by simp, by simp, List.Perm.refl _⟩ (Weak.of_keep [3,7,8,9,15,104,105] (by simp)) ?_
        rintro ⟨⟨i, W⟩, hi, hp1, hp2⟩
        simp only at hi hp1 hp2
        simp only [iv, isv, bv]
        have hWW : W.length = W0.length := hp2.length_eq
        by_cases hli : i < W.length
        · have hne : W0.isEmpty = false := by
            cases W0 with
            | nil => simp at hWW; subst hWW; simp at hli
            | cons a r => rfl
          rw [hne]
          have hwi : IntKind.i64.wrap ((i : Int) + 1) = ((i + 1 : Nat) : Int) := i64w (by omega) (by omega)
          have hx : W[i]? = some W[i] := List.getElem?_eq_getElem hli
          have hst := insV_start hx
          have hAl : (W.take i).length = i := by rw [List.length_take]; omega
          have hrl : (W.drop (i + 1)).length = W.length - (i + 1) := List.length_drop ..
          have hpm := fun k => (insV_perm (W.take i) (W.drop (i + 1)) W[i] k)
          have hpW : (W.take i ++ W[i] :: W.drop (i + 1)).Perm W := by rw [← List.drop_eq_getElem_cons hli, List.take_append_drop]
          obtain ⟨x, hxx⟩ : ∃ x, x = W[i] := ⟨_, rfl⟩
          obtain ⟨A, hAA⟩ : ∃ A, A = W.take i := ⟨_, rfl⟩
          obtain ⟨rest, hrr⟩ : ∃ r, r = W.drop (i + 1) := ⟨_, rfl⟩
          rw [← hxx] at hx hst hpm hpW
          rw [← hAA] at hst hAl hpm hpW
          rw [← hrr] at hst hrl hpm hpW
          have hp1' : A.Pairwise (· < ·) := by rw [hAA]; exact hp1
          clear hxx hAA hrr
          have hs : True := trivial
          repeat' first | (with_reducible first | refine q01 ?_ | refine q11 ?_ | refine q12 ?_ | refine q14 ?_) | (with_reducible refine DT_regionE [0,1,2,3,6,7,8,9,10,11,12,13,14,15,16,17,18,19,20,21,22,30,47,83,85,86,87,88,96,104,105,106,122] ?_; simp -dsimp [hli, hs]) | (refine DT_cond rfl (fun h => ?_) (fun h => ?_) <;> (try simp only [nrm] at h) <;> (try exact Bool.noConfusion h))
          all_goals try simp -dsimp [hli, hs]
          all_goals try clear hs
          refine DT_loop (ι := { k : Nat // k ≤ A.length ∧ ∀ y ∈ A.drop k, x < y }) (fun p => ⟨169, [(3, .one (.ptr 0 0)), (7, bv true), (8, isv t), (9, isv L), (15, .one (.vec 1 g 0 W.length)), (19, iv (p.1 : Int)), (104, iv (W.length : Int)), (105, iv (i : Int))], [.row ((encNotes n).map .im), .vec 1 (ims ((insV A rest x p.1).map encI)) g false]⟩) (fun p => p.1) ⟨i, by omega, by rw [← hAl]; simp⟩ (Weak.of_keep [3,7,8,9,15,19,104,105] (by simp [hst])) ?_
          rintro ⟨k, hkA, hge⟩
          simp only [iv, isv, bv]
          have hVl := insV_len A rest x k
          have hVk := insV_at (rest := rest) (x := x) hkA
          have hVs := fun h => insV_sorted (rest := rest) hp1' hkA hge h
          have hVp := (hpm k).trans (hpW.trans hp2)
          have hVn : (insV A rest x k).Nodup := hVp.nodup_iff.2 hWn
          cases k with
          | zero =>
            have hso := hVs (fun a h => absurd rfl h)
            have hVW : (insV A rest x 0).length = W.length := by omega
            generalize insV A rest x 0 = V at *
            have hs : True := trivial
            repeat' first | (with_reducible first | refine q01 ?_ | refine q03 ?_ | refine q04 ?_ | refine q06 ?_ | refine q11 ?_ | refine q16 ?_) | (refine DT_regionM (id := 23) (nt := 169) 14 [0,1,2,3,6,7,8,9,10,11,12,13,14,15,16,17,18,19,20,21,22,30,47,83,85,86,87,88,96,104,105,106,122] mixed rfl (by kernel_rfl) ?_; simp -dsimp [hwi, hs]) | (with_reducible refine DT_regionE [0,1,2,3,6,7,8,9,10,11,12,13,14,15,16,17,18,19,20,21,22,30,47,83,85,86,87,88,96,104,105,106,122] ?_; simp -dsimp [hwi, hs]) | (refine DT_cond rfl (fun h => ?_) (fun h => ?_) <;> (try simp only [nrm] at h) <;> (try exact Bool.noConfusion h))
            all_goals try simp -dsimp [hwi, hs]
            all_goals try clear hs
            all_goals exact At.round ⟨(i + 1, V), by simp only; omega, by rw [← hAl]; exact hso, hVp⟩ (by simp only; omega) (Weak.of_keep [3,7,8,9,15,104,105] (by simp [hne, hVW]))
          | succ k =>
            have hka : A[k]? = some A[k] := List.getElem?_eq_getElem (by omega)
            have hVa := insV_prev (rest := rest) (x := x) hkA
            rw [hka] at hVa
            have hsw := fun a h => insV_swap (rest := rest) (x := x) (a := a) (A := A) (k := k) h
            have hd := List.drop_eq_getElem_cons (show k < A.length by omega)
            generalize hae : A[k] = a at *
            have hsw := hsw a hka
            have hw5 : IntKind.i64.wrap (((k + 1 : Nat) : Int) - 1) = (k : Int) := by rw [show ((k + 1 : Nat) : Int) - 1 = k by omega]; exact i64w (by omega) (by omega)
            have hw7 := hw5
            simp at hw7
            have hk0 : (0 : Int) < (k : Int) + 1 := by omega
            have hk9 : (0 : Int) ≤ (k : Int) + 1 := by omega
            have hVW : (insV A rest x (k + 1)).length = W.length := by omega
            obtain ⟨v1, v2⟩ := List.getElem?_eq_some_iff.1 hVk
            obtain ⟨v3, v4⟩ := List.getElem?_eq_some_iff.1 hVa
            have hax : a ≠ x := fun e => by
              have := (List.pairwise_iff_getElem.1 hVn) k (k + 1) v3 v1 (by omega)
              rw [v4, v2] at this; exact this e
            have v5 : (k : Int) + 1 < W.length := by omega
            have v6 : k < W.length := by omega
            have v7 : k + 1 < W.length := by omega
            by_cases hgt : x < a
            · have hge2 : ∀ y ∈ A.drop k, x < y := fun y hy => by
                rw [hd] at hy
                rcases List.mem_cons.1 hy with rfl | hy
                · exact hgt
                · exact hge y hy
              have hV : ims ((insV A rest x k).map encI) = ((ims ((insV A rest x (k + 1)).map encI)).set (k + 1) [.im (rI a)]).set k [.im (rI x)] := by rw [← hsw]; simp [ims, encI]
              generalize insV A rest x (k + 1) = V at *
              have hs : True := trivial
              repeat' first | (with_reducible first | refine q01 ?_ | refine q04 ?_ | refine q11 ?_ | refine q12 ?_ | refine q14 ?_) | (refine DT_regionM (id := 23) (nt := 169) 14 [0,1,2,3,6,7,8,9,10,11,12,13,14,15,16,17,18,19,20,21,22,30,47,83,85,86,87,88,96,104,105,106,122] mixed rfl (by kernel_rfl) ?_; simp -dsimp [hw5, hw7, hk0, hk9, hVk, hVa, v1, v2, v3, v4, v5, v6, v7, hgt, hVW, hs]) | (with_reducible refine DT_regionE [0,1,2,3,6,7,8,9,10,11,12,13,14,15,16,17,18,19,20,21,22,30,47,83,85,86,87,88,96,104,105,106,122] ?_; simp -dsimp [hw5, hw7, hk0, hk9, hVk, hVa, v1, v2, v3, v4, v5, v6, v7, hgt, hVW, hs]) | (refine DT_cond rfl (fun h => ?_) (fun h => ?_) <;> (try simp only [nrm] at h) <;> (try exact Bool.noConfusion h))
              all_goals try simp -dsimp [hw5, hw7, hk0, hk9, hVk, hVa, v1, v2, v3, v4, v5, v6, v7, hgt, hVW, hs]
              all_goals try clear hs
              all_goals exact At.round ⟨k, by omega, hge2⟩ (by simp) (Weak.of_keep [3,7,8,9,15,19,104,105] (by simp [hV]))
            · have hso := hVs (fun a' _ h => by
                rw [show k + 1 - 1 = k by omega, hka] at h
                cases h; omega)
              generalize insV A rest x (k + 1) = V at *
              have hs : True := trivial
              repeat' first | (with_reducible first | refine q01 ?_ | refine q03 ?_ | refine q04 ?_ | refine q06 ?_ | refine q11 ?_ | refine q16 ?_) | (refine DT_regionM (id := 23) (nt := 169) 14 [0,1,2,3,6,7,8,9,10,11,12,13,14,15,16,17,18,19,20,21,22,30,47,83,85,86,87,88,96,104,105,106,122] mixed rfl (by kernel_rfl) ?_; simp -dsimp [hw5, hw7, hk0, hk9, hVk, hVa, v1, v2, v3, v4, v5, v6, v7, hgt, hVW, hwi, hs]) | (with_reducible refine DT_regionE [0,1,2,3,6,7,8,9,10,11,12,13,14,15,16,17,18,19,20,21,22,30,47,83,85,86,87,88,96,104,105,106,122] ?_; simp -dsimp [hw5, hw7, hk0, hk9, hVk, hVa, v1, v2, v3, v4, v5, v6, v7, hgt, hVW, hwi, hs]) | (refine DT_cond rfl (fun h => ?_) (fun h => ?_) <;> (try simp only [nrm] at h) <;> (try exact Bool.noConfusion h))
              all_goals try simp -dsimp [hw5, hw7, hk0, hk9, hVk, hVa, v1, v2, v3, v4, v5, v6, v7, hgt, hVW, hwi, hs]
              all_goals try clear hs
              all_goals exact At.round ⟨(i + 1, V), by simp only; omega, by rw [← hAl]; exact hso, hVp⟩ (by simp only; omega) (Weak.of_keep [3,7,8,9,15,104,105] (by simp [hne, hVW]))
        · obtain rfl : i = W.length := by omega
          rw [List.take_length] at hp1
          have g6 := f6 W hp1 (fun x hx => hWm x (hp2.mem_iff.1 hx))
          have d10 := c10 W (by omega)
          have d11 := c11 W (by omega)
          have d12 := c12 W
          have d13 := c13 W (by omega)
          generalize (t.filter fun a => decide (a ∉ W)) = t2 at *
          generalize Notes.mk n.reg (drawL n.notes W) = o2 at *
          generalize clashL n t W = C2 at *
          refine DT_weak (Weak.drop (Nat.zero_le _) (Nat.zero_le _)) ?_
          simp -dsimp
          by_cases hC2 : C2.length = 0
          · rw [g6 hC2] at d13
            obtain rfl := List.eq_nil_of_length_eq_zero hC2
            have hs : True := trivial
            repeat' first | (with_reducible first | refine q01 ?_ | refine q03 ?_ | refine q06 ?_ | refine q11 ?_ | refine q16 ?_ | refine q17 ?_) | (with_reducible refine At.fn_ret (by simp -dsimp [hli, hs]; exact rfl) ?_) | (refine CallE.pure (d10) ?_; try simp -dsimp [hli, hs]) | (refine CallE.pure (d11) ?_; try simp -dsimp [hli, hs]) | (refine CallE.pure (d12) ?_; try simp -dsimp [hli, hs]) | (refine CallE.pure (d13) ?_; try simp -dsimp [hli, hs]) | (with_reducible refine DT_regionE [0,1,2,3,6,7,8,9,10,11,12,13,14,15,16,17,18,19,20,21,22,30,47,83,85,86,87,88,96,104,105,106,122] ?_; simp -dsimp [hli, hs]) | (refine DT_cond rfl (fun h => ?_) (fun h => ?_) <;> (try simp only [nrm] at h) <;> (try exact Bool.noConfusion h))
            all_goals try simp -dsimp [hli, hs]
            all_goals try clear hs
          · have hC3 : (0 : Int) < C2.length := by omega
            have hC4 : 0 < C2.length := by omega
            have hs : True := trivial
            repeat' first | (with_reducible first | refine q01 ?_ | refine q03 ?_ | refine q06 ?_ | refine q11 ?_ | refine q16 ?_ | refine q17 ?_) | (with_reducible refine At.fn_ret (by simp -dsimp [hli, hC3, hC4, hs]; exact rfl) ?_) | (refine CallE.pure (d10) ?_; try simp -dsimp [hli, hC3, hC4, hs]) | (refine CallE.pure (d11) ?_; try simp -dsimp [hli, hC3, hC4, hs]) | (refine CallE.pure (d12) ?_; try simp -dsimp [hli, hC3, hC4, hs]) | (with_reducible refine DT_regionE [0,1,2,3,6,7,8,9,10,11,12,13,14,15,16,17,18,19,20,21,22,30,47,83,85,86,87,88,96,104,105,106,122] ?_; simp -dsimp [hli, hC3, hC4, hs]) | (refine DT_cond rfl (fun h => ?_) (fun h => ?_) <;> (try simp only [nrm] at h) <;> (try exact Bool.noConfusion h))
            all_goals try simp -dsimp [hli, hC3, hC4, hs]
            all_goals try clear hs
end Go.Proofs
