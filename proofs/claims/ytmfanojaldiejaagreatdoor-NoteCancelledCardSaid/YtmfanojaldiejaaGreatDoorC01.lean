/- Part 31 of the proofs: laws and walks that hold without conditions beyond those that each theorem names. -/
import Derived.Test.YtmfanojaldiejaaGreatDoorA23
import Derived.Test.YtmfanojaldiejaaGreatDoorA24
import Derived.Test.YtmfanojaldiejaaGreatDoorA25
import Derived.Test.YtmfanojaldiejaaGreatDoorA26
import Derived.Test.YtmfanojaldiejaaGreatDoorA27
set_option linter.all false
set_option linter.deprecated false
namespace Go.Proofs
open Go Go.Ab
theorem lettersK_ext {n n' : Notes} {s s' : List Int} {m : Int} (hr : n'.reg = n.reg) (h : ∀ d, letF n' s' d m = letF n s d m) : lettersK n' s' m = lettersK n s m := by
  unfold lettersK
  rw [hr]
  exact List.map_congr_left fun d _ => h d
end Go.Proofs
namespace Go.Proofs
open Go Go.Ab
set_option linter.unusedSimpArgs false
variable {G : Nat → Option (List IC)}
def setN (n : Notes) (i : Nat) (v : Int) : Notes := ⟨n.reg, setSg n.notes i v⟩
theorem setSg_mem {l : List Note} {i : Nat} {v : Int} {y : Note} (h : y ∈ setSg l i v) : ∃ x ∈ l, y = x ∨ y = sgn x v := by
  obtain ⟨j, hj⟩ := List.mem_iff_getElem?.1 h
  obtain ⟨x, h1, h2⟩ := setSg_at hj
  refine ⟨x, List.mem_of_getElem? h1, ?_⟩
  split at h2
  · exact .inr h2
  · exact .inl h2
theorem NKind.set {n : Notes} (hk : NKind n) {i : Nat} {v : Int} (hv : 0 ≤ v ∧ v ≤ 2) : NKind (setN n i v) := by
  refine ⟨hk.1, fun y hy => ?_⟩
  obtain ⟨x, hx, h⟩ := setSg_mem hy
  have := hk.2 x hx
  rcases h with rfl | rfl
  · exact this
  · exact ⟨this.1, this.2.1, by simp [sgn]; omega, by simp [sgn]; omega⟩
theorem RF.set {n : Notes} (R : RF n) (hk : NKind n) {i : Nat} {x : Note} (hx : n.notes[i]? = some x) {v : Int} (hv : 0 ≤ v ∧ v ≤ 2) (h1 : v ≠ 1) : readyB (setN n i v) = true := by
  have hl : (setSg n.notes i v).length = n.notes.length := setSg_len _ _ _
  have h0 : smallNB (setN n i v) = true := by
    unfold smallNB
    rw [Bool.and_eq_true]
    exact ⟨decide_eq_true R.sn.1, decide_eq_true (by show (setSg n.notes i v).length ≤ 16; rw [hl]; exact R.sn.2)⟩
  have h2 : notesE (setN n i v) = 0 := by
    unfold notesE
    rw [if_neg (by simp [setN, R.c]), if_pos]
    refine notesB_iff.2 ⟨by show (setSg n.notes i v).length ≤ 12; rw [hl]; exact R.l, allOk_set R.ok hv i, ?_⟩
    have := open_list R.ok hx hv h1
    rw [← isortL, show (setN n i v).notes = setSg n.notes i v from rfl, this]
    exact Nat.le_trans (List.length_filter_le _ _) R.o5
  simp [readyB, h0, h2]
end Go.Proofs
namespace Go.Proofs
open Go Go.Ab
def drawL (l : List Note) (w : List Int) : List Note := l.map fun x => if x.number ∈ w then sgn x 0 else x
theorem strip_draw (l : List Note) (w : List Int) : strip (drawL l w) = strip l := by
  simp only [strip, drawL, List.map_map]
  refine List.map_congr_left fun x _ => ?_
  simp only [Function.comp_apply]
  split <;> rfl
theorem drawL_at {l : List Note} {w : List Int} {j : Nat} {y : Note} (h : (drawL l w)[j]? = some y) : ∃ x, l[j]? = some x ∧ y = if x.number ∈ w then sgn x 0 else x := by
  simp only [drawL, List.getElem?_map, Option.map_eq_some_iff] at h
  obtain ⟨x, h1, h2⟩ := h
  exact ⟨x, h1, h2.symm⟩
theorem frc_draw (n : Notes) (s w : List Int) (m : Int) : frcL (s.filter fun a => decide (a ∉ w)) [] m (drawL n.notes w) = frcL s w m n.notes := by
  refine frcL_ext (strip_draw _ _) fun j y x hy hx => ?_
  obtain ⟨z, h1, h2⟩ := drawL_at hy
  rw [hx] at h1; cases h1
  by_cases hw : x.number ∈ w
  · rw [if_pos hw] at h2
    subst h2
    simp [frcB, sgn, hw]
  · rw [if_neg hw] at h2
    subst h2
    simp [frcB, hw]
end Go.Proofs
namespace Go.Proofs
open Go Go.Ab
set_option linter.unusedSimpArgs false
variable {G : Nat → Option (List IC)}
def drF (w : List Int) (x : Note) : Note := if x.number ∈ w then sgn x 0 else x
def drTo (L : List Note) (w : List Int) (k : Nat) : List Note := (L.take k).map (drF w) ++ L.drop k
theorem drTo_zero (L : List Note) (w : List Int) : drTo L w 0 = L := by simp [drTo]
theorem drTo_all (L : List Note) (w : List Int) : drTo L w L.length = drawL L w := by simp [drTo, drawL, drF]
theorem drTo_len {L : List Note} {w : List Int} {k : Nat} (h : k ≤ L.length) : (drTo L w k).length = L.length := by simp [drTo]; omega
theorem drTo_at {L : List Note} {w : List Int} {k : Nat} (h : k < L.length) : (drTo L w k)[k]? = some L[k] := by
  unfold drTo
  rw [List.getElem?_append_right (by simp; omega)]
  simp [Nat.min_eq_left (Nat.le_of_lt h), h]
theorem drTo_succ {L : List Note} {w : List Int} {k : Nat} (h : k < L.length) : drTo L w (k + 1) = (drTo L w k).set k (drF w L[k]) := by
  unfold drTo
  rw [List.take_succ_eq_append_getElem h, List.map_append, List.map_singleton, List.append_assoc, List.singleton_append]
  rw [List.set_append_right _ _ (by simp; omega)]
  rw [List.length_map, List.length_take, Nat.min_eq_left (Nat.le_of_lt h), Nat.sub_self]
  rw [List.drop_eq_getElem_cons h, List.set_cons_zero]
theorem setSame {α : Type} {l : List α} {k : Nat} {x : α} (h : l[k]? = some x) : l.set k x = l := by
  obtain ⟨h1, h2⟩ := List.getElem?_eq_some_iff.1 h
  rw [← h2, List.set_getElem_self]
set_option maxHeartbeats 4000000 in
theorem withdrawn_c (n : Notes) (w : List Int) (hsn : SmallN n) (hwl : w.length < 1000) (objs : List DObj) : DCall Tryz.prog G 33 [notesv n, isv w] objs (fun rr objs' => rr = notesv ⟨n.reg, drawL n.notes w⟩ ∧ objs' = objs) := by
  refine DCall.frame ?_ (by simp) (by simp) objs
  refine DCall_intro Tryz.func33 rfl Tryz.ntmps33 (by simp) rfl ?_
  try simp only [notesv, isv]
  have c2 := twin3N_c (G := G) n hsn
  have hn16 := hsn.2
  have hs : True := trivial
  repeat' first | (with_reducible first | refine q01 ?_ | refine q11 ?_ | refine q12 ?_) | (refine CallE.embed [] (c2) ?_ ?_ ?_ ?_ ?_ ?_; (focus (simp [emb]; done)); (focus (simp; done)); (focus (simp; done)); (focus (simp; done)); (focus (refine emb_all ?_; simp [emb, embAll]; done)); try simp -dsimp [mergeO, emb, hs]) | (with_reducible refine DT_regionE [0,1,2,4,5,6,11,12,13,22] ?_; simp -dsimp [hs])
  all_goals try simp -dsimp [hs]
  all_goals try clear hs
  refine DT_loop (ι := { k : Nat // k ≤ n.notes.length }) (fun p => ⟨30, [(1, isv w), (4, .one (.ptr 3 0)), (5, .one (.ptr 11 0)), (11, iv (n.notes.length : Int)), (12, iv (p.1 : Int))], [.row ((encNotes n).map .im), .vec 0 [] 0 true, .vec 0 [] 0 true, .row [.vec 1 0 0 0, .vec 2 0 0 0], .row ((encNotes n).map .im), .vec 0 [] 0 true, .vec 0 [] 0 true, .row [.im (.sl (n.reg.map encIssue)), .vec 8 1 0 n.notes.length], .vec 10 (ims ((drTo n.notes w p.1).map encNote)) 1 false, .vec 0 [] 0 true, .vec 0 [] 0 true, .row [.im (.sl (n.reg.map encIssue)), .vec 8 1 0 n.notes.length]]⟩) (fun p => n.notes.length - p.1) ⟨0, by simp⟩ (Weak.of_keep [1,4,5,11,12] (by simp [drTo_zero])) ?_
  rintro ⟨k, hk⟩
  simp only [iv, isv]
  have hil := drTo_len (w := w) hk
  by_cases hlt : k < n.notes.length
  · have hw : IntKind.i64.wrap ((k : Int) + 1) = ((k + 1 : Nat) : Int) := i64w (by omega) (by omega)
    have hat := drTo_at (w := w) hlt
    have hsu := drTo_succ (w := w) hlt
    generalize hy : n.notes[k] = y at *
    have c1 := hasL_c (G := G) w y.number (by omega)
    generalize drTo n.notes w k = S at *
    have hiS : k < S.length := by omega
    have hat2 : S[k] = y := (List.getElem?_eq_some_iff.1 hat).2
    by_cases hm : y.number ∈ w
    · have hV : ims ((drTo n.notes w (k + 1)).map encNote) = (ims (S.map encNote)).set k ((encNote (sgn y 0)).map .im) := by rw [hsu, List.map_set, imsSet, drF, if_pos hm]
      rw [decide_eq_true hm] at c1
      have hs : True := trivial
      repeat' first | (with_reducible first | refine q01 ?_ | refine q04 ?_ | refine q11 ?_ | refine q12 ?_ | refine q14 ?_) | (refine CallE.pure (c1) ?_; try simp -dsimp [hlt, hw, hat, hat2, hiS, hil, hs]) | (with_reducible refine DT_regionE [0,1,2,4,5,6,11,12,13,22] ?_; simp -dsimp [hlt, hw, hat, hat2, hiS, hil, hs]) | (refine DT_cond rfl (fun h => ?_) (fun h => ?_) <;> (try simp only [nrm] at h) <;> (try exact Bool.noConfusion h))
      all_goals try simp -dsimp [hlt, hw, hat, hat2, hiS, hil, hs]
      all_goals try clear hs
      all_goals exact At.round ⟨k + 1, by omega⟩ (by simp only; omega) (Weak.of_keep [1,4,5,11,12] (by simp [hV, sgn]))
    · have hV : drTo n.notes w (k + 1) = S := by rw [hsu, drF, if_neg hm]; exact setSame hat
      rw [decide_eq_false hm] at c1
      have hs : True := trivial
      repeat' first | (with_reducible first | refine q01 ?_ | refine q04 ?_ | refine q11 ?_ | refine q12 ?_ | refine q14 ?_) | (refine CallE.pure (c1) ?_; try simp -dsimp [hlt, hw, hat, hat2, hiS, hil, hs]) | (with_reducible refine DT_regionE [0,1,2,4,5,6,11,12,13,22] ?_; simp -dsimp [hlt, hw, hat, hat2, hiS, hil, hs]) | (refine DT_cond rfl (fun h => ?_) (fun h => ?_) <;> (try simp only [nrm] at h) <;> (try exact Bool.noConfusion h))
      all_goals try simp -dsimp [hlt, hw, hat, hat2, hiS, hil, hs]
      all_goals try clear hs
      all_goals exact At.round ⟨k + 1, by omega⟩ (by simp only; omega) (Weak.of_keep [1,4,5,11,12] (by simp [hV]))
  · obtain rfl : k = n.notes.length := by omega
    rw [drTo_all] at *
    have hdl : (drawL n.notes w).length = n.notes.length := by simp [drawL]
    have hs : True := trivial
    repeat' first | (with_reducible first | refine q01 ?_ | refine q03 ?_ | refine q06 ?_ | refine q11 ?_ | refine q16 ?_ | refine q17 ?_) | (with_reducible refine At.fn_ret (by simp -dsimp [hlt, hdl, hs]; exact rfl) ?_) | (with_reducible refine DT_regionE [0,1,2,4,5,6,11,12,13,22] ?_; simp -dsimp [hlt, hdl, hs]) | (refine DT_cond rfl (fun h => ?_) (fun h => ?_) <;> (try simp only [nrm] at h) <;> (try exact Bool.noConfusion h))
    all_goals try simp -dsimp [hlt, hdl, hs]
    all_goals try clear hs
    all_goals simp [← hdl]
end Go.Proofs
namespace Go.Proofs
open Go Go.Ab
end Go.Proofs
namespace Go.Proofs
open Go Go.Ab
structure SegOk (f : Int → Int) (k : Int) (L : List Str) : Prop where
  last : ∃ y, L.getLast? = some y ∧ y.to = k
  first : ∀ y, L[0]? = some y → y.frm = 1
  each : ∀ (i : Nat) (y : Str), L[i]? = some y → 1 ≤ y.frm ∧ y.frm ≤ y.to ∧ y.to ≤ k ∧ ∀ m, y.frm ≤ m → m ≤ y.to → f m = y.letter
  next : ∀ (i : Nat) (y z : Str), L[i]? = some y → L[i + 1]? = some z → y.to + 1 = z.frm ∧ y.letter ≠ z.letter
end Go.Proofs
namespace Go.Proofs
open Go Go.Ab
theorem frcO_set {b : Int} : ∀ (r : List Note) (F : List Bool) (i : Nat) (x : Note), r[i]? = some x → x.cancels ≠ b → frcO b r (F.set i false) = frcO b r F
  | [], _, _, _, h, _ => by simp at h
  | y :: r, [], i, x, h, hc => by simp
  | y :: r, f :: F, 0, x, h, hc => by
    simp at h; subst h
    simp [frcO, hc]
  | y :: r, f :: F, i + 1, x, h, hc => by
    simp only [List.set_cons_succ, frcO, frcO_set r F i x (by simpa using h) hc]
theorem frc_without {s : List Int} {m : Int} : ∀ (l : List Note) (i : Nat) (x : Note), l[i]? = some x → (∀ (j : Nat) (y : Note), l[j]? = some y → y.number = x.number → j = i) →
    (∀ j, i < j → (frcL s [x.number] m l)[j]? = (frcL s [] m l)[j]?) ∧ (frcL s [x.number] m l)[i]? = some false ∧ ((frcL s [] m l)[i]? = some false → frcL s [x.number] m l = frcL s [] m l) ∧
    ((∀ y ∈ l, x.cancels ≠ y.number) → frcL s [x.number] m l = (frcL s [] m l).set i false)
  | [], _, _, h, _ => by simp at h
  | y :: r, 0, x, h, hu => by
    simp at h; subst h
    have hr : frcL s [y.number] m r = frcL s [] m r := frcL_ext rfl fun j a b ha hb => by
      rw [ha] at hb; cases hb
      have hne : a.number ≠ y.number := fun e => by have := hu (j + 1) a (by simpa using ha) e; omega
      simp [frcB, hne]
    have hG : frcL s [y.number] m (y :: r) = false :: frcL s [] m r := by simp only [frcL, hr]; simp [frcB]
    refine ⟨fun j hj => ?_, by rw [hG]; rfl, fun h => ?_, fun _ => by rw [hG]; simp [frcL]⟩
    · obtain ⟨k, rfl⟩ : ∃ k, j = k + 1 := ⟨j - 1, by omega⟩
      rw [hG]; simp [frcL]
    · rw [hG]
      simp only [frcL, List.getElem?_cons_zero, Option.some.injEq] at h
      simp only [frcL, h]
  | y :: r, i + 1, x, h, hu => by
    have hx : r[i]? = some x := by simpa using h
    obtain ⟨a1, a2, a3, a4⟩ := frc_without (s := s) (m := m) r i x hx fun j z hz e => by have := hu (j + 1) z (by simpa using hz) e; omega
    have hne : y.number ≠ x.number := fun e => by have := hu 0 y rfl e; omega
    have hb : frcB s [x.number] m y = frcB s [] m y := by simp [frcB, hne]
    refine ⟨fun j hj => ?_, ?_, fun hf => ?_, fun hc => ?_⟩
    · obtain ⟨k, rfl⟩ : ∃ k, j = k + 1 := ⟨j - 1, by omega⟩
      simpa [frcL] using a1 k (by omega)
    · simpa [frcL] using a2
    · have := a3 (by simpa [frcL] using hf)
      simp only [frcL, this, hb]
    · have e := a4 fun z hz => hc z (by simp [hz])
      simp only [frcL, e, hb, List.set_cons_succ, frcO_set r _ i x hx (hc y (by simp))]
theorem inT_count {l : List Note} {F : List Bool} (hF : F.length = l.length) : ∀ k, k ≤ l.length → (inT l F k).length = (F.take k).count true
  | 0, _ => by simp [inT_zero]
  | k + 1, h => by
    have hk : k < F.length := by omega
    rw [inT_succ (by omega) hk, List.length_append, inT_count hF k (by omega), List.take_succ_eq_append_getElem hk, List.count_append]
    cases F[k] <;> simp
theorem count_set {F : List Bool} {i : Nat} (h : F[i]? = some true) : (F.set i false).count true + 1 = F.count true := by
  induction F generalizing i with
  | nil => simp at h
  | cons f F ih =>
    cases i with
    | zero => simp at h; subst h; simp
    | succ i =>
      have := ih (by simpa using h)
      simp only [List.set_cons_succ, List.count_cons]
      omega
end Go.Proofs
namespace Go.Proofs
open Go Go.Ab
set_option linter.unusedSimpArgs false
variable {G : Nat → Option (List IC)}
theorem drTo_setSg {L : List Note} {w : List Int} {k : Nat} (h : k < L.length) : drTo L w (k + 1) = if L[k].number ∈ w then setSg (drTo L w k) k 0 else drTo L w k := by
  rw [drTo_succ h]
  have h1 := drTo_at (w := w) h
  unfold drF
  split
  · unfold setSg; rw [h1]
  · exact setSame h1
theorem allOk_draw {n : Notes} (hok : allOk n) (w : List Int) : allOk ⟨n.reg, drawL n.notes w⟩ := by
  have : ∀ k, k ≤ n.notes.length → allOk ⟨n.reg, drTo n.notes w k⟩ := by
    intro k
    induction k with
    | zero => intro _; rw [drTo_zero]; exact hok
    | succ k ih =>
      intro h
      rw [drTo_setSg (by omega)]
      split
      · exact allOk_set (n := ⟨n.reg, drTo n.notes w k⟩) (ih (by omega)) (by omega) k
      · exact ih (by omega)
  have h := this _ (Nat.le_refl _)
  rwa [drTo_all] at h
theorem drawL_get (l : List Note) (w : List Int) (k : Nat) : (drawL l w)[k]? = (l[k]?).map (drF w) := by rw [show drawL l w = l.map (drF w) from rfl, List.getElem?_map]
theorem drF_number (w : List Int) (x : Note) : (drF w x).number = x.number := by unfold drF; split <;> rfl
theorem open_draw {l : List Note} {w : List Int} {a : Int} : a ∈ openL (drawL l w) ↔ a ∈ openL l ∧ a ∉ w := by
  rw [open_mem, open_mem]
  constructor
  · rintro ⟨k, y, h1, h2, h3⟩
    rw [drawL_get, Option.map_eq_some_iff] at h1
    obtain ⟨x, h4, rfl⟩ := h1
    rw [drF_number] at h2
    by_cases hw : x.number ∈ w
    · simp [drF, hw, sgn] at h3
    · simp only [drF, if_neg hw] at h3
      exact ⟨⟨k, x, h4, h2, h3⟩, h2 ▸ hw⟩
  · rintro ⟨⟨k, x, h1, h2, h3⟩, hw⟩
    refine ⟨k, x, ?_, h2, h3⟩
    rw [drawL_get, h1, Option.map_some, drF, if_neg (by rw [h2]; exact hw)]
theorem open_drawL {n : Notes} (hok : allOk n) (w : List Int) : isort (openL (drawL n.notes w)) = (isort (openL n.notes)).filter fun a => decide (a ∉ w) := by
  refine strict_eq (isort_strict (openL_nodup (allOk_draw hok w))) ((isort_strict (openL_nodup hok)).filter _) fun a => ?_
  rw [isort_mem, open_draw, List.mem_filter, isort_mem, decide_eq_true_eq]
theorem NKind.draw {n : Notes} (hk : NKind n) (w : List Int) : NKind ⟨n.reg, drawL n.notes w⟩ := by
  refine ⟨hk.1, fun y hy => ?_⟩
  obtain ⟨k, hy⟩ := List.mem_iff_getElem?.1 hy
  rw [show (Notes.mk n.reg (drawL n.notes w)).notes = drawL n.notes w from rfl, drawL_get, Option.map_eq_some_iff] at hy
  obtain ⟨x, h1, rfl⟩ := hy
  have := hk.2 x (List.mem_of_getElem? h1)
  unfold drF
  split
  · exact ⟨this.1, this.2.1, by simp [sgn], by simp [sgn]⟩
  · exact this
theorem drawL_len (l : List Note) (w : List Int) : (drawL l w).length = l.length := by simp [drawL]
theorem RF.draw {n : Notes} (R : RF n) (w : List Int) : readyB ⟨n.reg, drawL n.notes w⟩ = true := by
  have hl := drawL_len n.notes w
  have h0 : smallNB ⟨n.reg, drawL n.notes w⟩ = true := by
    unfold smallNB
    rw [Bool.and_eq_true]
    exact ⟨decide_eq_true R.sn.1, decide_eq_true (by show (drawL n.notes w).length ≤ 16; rw [hl]; exact R.sn.2)⟩
  have h2 : notesE ⟨n.reg, drawL n.notes w⟩ = 0 := by
    unfold notesE
    rw [if_neg (by simp [R.c]), if_pos]
    refine notesB_iff.2 ⟨by show (drawL n.notes w).length ≤ 12; rw [hl]; exact R.l, allOk_draw R.ok w, ?_⟩
    have := open_drawL R.ok w
    rw [← isortL, this]
    exact Nat.le_trans (List.length_filter_le _ _) R.o5
  simp [readyB, h0, h2]
theorem inT_draw (l : List Note) (w : List Int) (F : List Bool) (k : Nat) : inT (drawL l w) F k = inT l F k := by
  have : drawL l w = l.map (drF w) := rfl
  unfold inT
  rw [this, List.zip_map_left, ← List.map_take, List.filter_map, List.map_map]
  have e : ((fun x : Note × Bool => x.2) ∘ Prod.map (drF w) id) = fun x => x.2 := rfl
  rw [e]
  exact List.map_congr_left fun x _ => drF_number w x.1
theorem RF.left {n : Notes} (R : RF n) {t : List Int} (ht : t.Sublist (isort (openL n.notes))) (w : List Int) : (t.filter fun a => decide (a ∉ w)).Sublist (isort (openL (drawL n.notes w))) := by
  rw [open_drawL R.ok]; exact ht.filter _
theorem letters_draw {n : Notes} {t : List Int} {M : Int} {w : List Int} (h : frcL t w M n.notes = frcL t [] M n.notes) : lettersK ⟨n.reg, drawL n.notes w⟩ (t.filter fun a => decide (a ∉ w)) M = lettersK n t M :=
  lettersK_ext rfl fun d => letF_ext (strip_draw _ _) (by rw [frc_draw, h]) d
end Go.Proofs
namespace Go.Proofs
open Go Go.Ab
theorem allOk_one {n : Notes} (hok : allOk n) {i j : Nat} {x y : Note} (hx : n.notes[i]? = some x) (hy : n.notes[j]? = some y) (e : y.number = x.number) : j = i := by
  have h5 := settleI_at hok hx
  have h6 := settleI_at hok hy
  rw [e] at h6; omega
end Go.Proofs
namespace Go.Proofs
open Go Go.Ab
set_option linter.unusedSimpArgs false
variable {G : Nat → Option (List IC)}
theorem DT_freezeRR {P : Program} {nt : Nat} {tmps : List (Nat × DV)} {a b : List DC} {es : List (List DC)} {g : Nat} {c : Code} {Q : Exit → DS → Prop} (h : DT P G ⟨0, none⟩ c (DS.drop ⟨nt, tmps, [DObj.row a, DObj.row b, DObj.vec 1 es g false]⟩ 0) Q) : DT P G ⟨0, none⟩ c ⟨nt, tmps, [DObj.row a, DObj.row b, DObj.vec 1 es g false]⟩ Q :=
  DT_weak (Weak.drop (Nat.zero_le _) (Nat.zero_le _)) h
theorem allOk_num {n : Notes} (hok : allOk n) {i : Nat} {x : Note} (hx : n.notes[i]? = some x) : 1 ≤ x.number := by
  have := hok i x hx
  simp only [nkA, nk1, Bool.and_eq_true, decide_eq_true_eq] at this
  exact this.1.1.1.1.1.1.1.1.1
theorem cancel_facts {n : Notes} (R : RF n) (t : List Int) (M : Int) {i : Nat} {x : Note} (hx : n.notes[i]? = some x) {F F' : List Bool} (hF : F = frcL t [] M n.notes) (hF' : F' = frcL t [x.number] M n.notes) {I I' : List Int} (hI : I = inT n.notes F n.notes.length) (hI' : I' = inT n.notes F' n.notes.length) :
    x.number ∉ I' ∧ (x.number ∉ I → F' = F) ∧ (∀ (j : Nat) (y : Note), i < j → n.notes[j]? = some y → decide (y.number ∈ I) = decide (y.number ∈ I')) ∧ (x.cancels ≤ 0 → x.number ∈ I → I'.length + 1 = I.length) := by
  have hl : F.length = n.notes.length := by rw [hF]; exact frcL_len _ _ _ _
  have hl' : F'.length = n.notes.length := by rw [hF']; exact frcL_len _ _ _ _
  obtain ⟨a1, a2, a3, a4⟩ := frc_without (s := t) (m := M) n.notes i x hx fun j y hy e => allOk_one R.ok hx hy e
  rw [← hF, ← hF'] at a1 a3 a4
  rw [← hF'] at a2
  have m1 := fun {j : Nat} {y : Note} (h : n.notes[j]? = some y) => inT_mem R.ok hl h
  have m2 := fun {j : Nat} {y : Note} (h : n.notes[j]? = some y) => inT_mem R.ok hl' h
  rw [← hI] at m1
  rw [← hI'] at m2
  have hxl := lt_of_getElem? hx
  refine ⟨fun h => ?_, fun h => ?_, fun j y hj hy => ?_, fun hc h => ?_⟩
  · rw [m2 hx, a2] at h; cases h
  · refine a3 ?_
    rw [m1 hx] at h
    have h9 : F[i]? = some F[i] := List.getElem?_eq_getElem (by omega)
    rw [h9] at h ⊢
    cases hf : F[i]
    · rfl
    · rw [hf] at h; exact absurd rfl h
  · rw [decide_eq_decide, m1 hy, m2 hy, a1 j hj]
  · have e := a4 fun y hy e => by
      obtain ⟨j, hj⟩ := List.mem_iff_getElem?.1 hy
      have := allOk_num R.ok hj
      omega
    have c1 := inT_count hl _ (Nat.le_refl _)
    have c2 := inT_count hl' _ (Nat.le_refl _)
    rw [← hI, List.take_of_length_le (by omega)] at c1
    rw [← hI', List.take_of_length_le (by omega), e] at c2
    rw [c1, c2]
    exact count_set ((m1 hx).1 h)
set_option maxHeartbeats 8000000 in
theorem noteCancelled_c (n : Notes) (b m d : Nat) (hG : sheetG G) (hN : noteG G) (hS : SortOk G) (hk : NKind n) (hb : b < 256) (hm : m < 65536) (hd : d < 256) (objs : List DObj) : DCall Tryz.prog G 9 [notesv n, u8V (b : Int), u16v (m : Int), u8V (d : Int)] objs (fun rr objs' => rr = bv true ∧ objs' = objs) := by
  refine DCall.frame ?_ (by simp) (by simp) objs
  refine DCall_intro Tryz.func9 rfl Tryz.ntmps9 (by simp) rfl ?_
  try simp only [notesv]
  have c1 := alive_c hG hN hS
  have c2 := ready_c (G := G) n hk
  cases hq : readyB n
  · rw [hq] at c2
    have hs : True := trivial
    repeat' first | (with_reducible first | refine q01 ?_ | refine q02 ?_ | refine q11 ?_ | refine q17 ?_) | (with_reducible refine At.fn_ret (by simp -dsimp [hs]; exact rfl) ?_) | (refine CallE.pure (c1) ?_; try simp -dsimp [hs]) | (refine CallE.pure (c2) ?_; try simp -dsimp [hs]) | (with_reducible refine DT_regionE [0,1,2,3,4,8,9,10,11,12,13,14,15,16,17,18,19,20,21,22,23,25,39,113,118,131,132,133,134,148] ?_; simp -dsimp [hs]) | (refine DT_cond rfl (fun h => ?_) (fun h => ?_) <;> (try simp only [nrm] at h) <;> (try exact Bool.noConfusion h))
    all_goals try simp -dsimp [hs]
    all_goals try clear hs
  · have R := readyRF hk hq
    rw [hq] at c2
    by_cases hz : n.notes.length = 0
    · obtain ⟨nr, nl⟩ := n
      obtain rfl : nl = [] := List.eq_nil_of_length_eq_zero hz
      have hs : True := trivial
      repeat' first | (with_reducible first | refine q01 ?_ | refine q02 ?_ | refine q11 ?_ | refine q17 ?_) | (with_reducible refine At.fn_ret (by simp -dsimp [hs]; exact rfl) ?_) | (refine CallE.pure (c1) ?_; try simp -dsimp [hs]) | (refine CallE.pure (c2) ?_; try simp -dsimp [hs]) | (with_reducible refine DT_regionE [0,1,2,3,4,8,9,10,11,12,13,14,15,16,17,18,19,20,21,22,23,25,39,113,118,131,132,133,134,148] ?_; simp -dsimp [hs]) | (refine DT_cond rfl (fun h => ?_) (fun h => ?_) <;> (try simp only [nrm] at h) <;> (try exact Bool.noConfusion h))
      all_goals try simp -dsimp [hs]
      all_goals try clear hs
    · have c3 := truthOf_c (G := G) n b R.s R.ok (by rw [← isortL]; exact R.o5) hb
      have c4 := machineOf_c (G := G) m hm
      rw [← truthAt'] at c3
      have hsub := R.sub b
      have hsl := R.len b
      generalize truthAt' n b = t at *
      have hM : 1 ≤ ((m % 999 + 1 : Nat) : Int) ∧ ((m % 999 + 1 : Nat) : Int) ≤ 999 := by omega
      generalize ((m % 999 + 1 : Nat) : Int) = M at *
      have hlt : d % n.notes.length < n.notes.length := Nat.mod_lt _ (by omega)
      have hw : IntKind.i64.wrap (d : Int) = d := i64w (by omega) (by omega)
      have ht : (d : Int).tmod (n.notes.length : Int) = ((d % n.notes.length : Nat) : Int) := by rw [Int.tmod_eq_emod_of_nonneg (by omega)]; simp
      generalize d % n.notes.length = i at *
      have hx : n.notes[i]? = some n.notes[i] := List.getElem?_eq_getElem hlt
      generalize hxe : n.notes[i] = x at *
      have c5 := nForce_c (G := G) n t M hG hN hS R.s hsl
      have c6 := nLetters_c (G := G) n t M hG hN hS R.s hsl
      rw [R.asked hsub hM.1 hM.2, if_pos rfl] at c5 c6
      rw [letters_eq] at c6
      have c7 := withdrawn_c (G := G) n [x.number] R.sn (by simp)
      have c8 := left_c (G := G) t [x.number] hsl (by simp)
      have ko := hk.draw [x.number]
      have RO := readyRF ko (R.draw [x.number])
      have hso := R.left hsub [x.number]
      have hsol := hso.length_le
      have hO5 := RO.o5
      have hfl : (t.filter fun a => decide (a ∉ [x.number])).length < 1000 := by have := List.length_filter_le (fun a => decide (a ∉ [x.number])) t; omega
      have c9 := nForce_c (G := G) ⟨n.reg, drawL n.notes [x.number]⟩ (t.filter fun a => decide (a ∉ [x.number])) M hG hN hS RO.s hfl
      have c10 := nLetters_c (G := G) ⟨n.reg, drawL n.notes [x.number]⟩ (t.filter fun a => decide (a ∉ [x.number])) M hG hN hS RO.s hfl
      rw [RO.asked hso hM.1 hM.2, if_pos rfl] at c9 c10
      rw [letters_eq] at c10
      rw [show (Notes.mk n.reg (drawL n.notes [x.number])).notes = drawL n.notes [x.number] from rfl, frc_draw, drawL_len, inT_draw] at c9
      obtain ⟨f1, f2, f3, f4⟩ := cancel_facts R t M hx rfl rfl rfl rfl
      have f5 := fun h => letters_draw (f2 h)
      have hI1 := inT_len n.notes (frcL t [] M n.notes) n.notes.length
      have hI2 := inT_len n.notes (frcL t [x.number] M n.notes) n.notes.length
      have f6 : x.number ∉ inT n.notes (frcL t [] M n.notes) n.notes.length → inT n.notes (frcL t [x.number] M n.notes) n.notes.length = inT n.notes (frcL t [] M n.notes) n.notes.length := fun h => by rw [f2 h]
      have hl12 := R.l
      have hn60 := R.n60
      have hA := lettersK_len n t M
      have hB := lettersK_len ⟨n.reg, drawL n.notes [x.number]⟩ (t.filter fun a => decide (a ∉ [x.number])) M
      have hBe : (nums (Notes.mk n.reg (drawL n.notes [x.number])).reg).length = (nums n.reg).length := rfl
      have c11 := fun y => hasL_c (G := G) (inT n.notes (frcL t [] M n.notes) n.notes.length) y (by omega)
      have c12 := fun y => hasL_c (G := G) (inT n.notes (frcL t [x.number] M n.notes) n.notes.length) y (by omega)
      have c13 := sameI3_c (G := G) (inT n.notes (frcL t [] M n.notes) n.notes.length) (inT n.notes (frcL t [x.number] M n.notes) n.notes.length) (by omega) (by omega)
      have c14 := sameI3_c (G := G) (lettersK n t M) (lettersK ⟨n.reg, drawL n.notes [x.number]⟩ (t.filter fun a => decide (a ∉ [x.number])) M) (by omega) (by omega)
      generalize inT n.notes (frcL t [] M n.notes) n.notes.length = I at *
      generalize inT n.notes (frcL t [x.number] M n.notes) n.notes.length = I' at *
      generalize lettersK n t M = A at *
      generalize lettersK ⟨n.reg, drawL n.notes [x.number]⟩ (t.filter fun a => decide (a ∉ [x.number])) M = B at *
      generalize hT2 : (t.filter fun a => decide (a ∉ [x.number])) = t2 at *
      generalize hN2 : Notes.mk n.reg (drawL n.notes [x.number]) = n2 at *
      have d1 := c11 x.number
      have d2 := c12 x.number
      rw [decide_eq_false f1] at d2
      have hz2 : ¬ (n.notes.length : Int) = 0 := by omega
      have hz3 : ¬ n.notes = [] := fun e => hz (by rw [e]; rfl)
      have hok := R.ok
      clear hG hN hS hsub hsl RO hso hsol hO5 ko R hA hB hBe hT2 hN2 f2 hn60
      by_cases hm : x.number ∈ I
      · rw [decide_eq_true hm] at d1
        have hs : True := trivial
        repeat' first | (with_reducible first | refine q01 ?_ | refine q11 ?_ | refine q12 ?_ | refine q14 ?_) | (refine CallE.pure (c1) ?_; try simp -dsimp [hw, ht, hlt, hx, hxe, hz2, hz3, hs]) | (refine CallE.pure (c2) ?_; try simp -dsimp [hw, ht, hlt, hx, hxe, hz2, hz3, hs]) | (refine CallE.pure (c3) ?_; try simp -dsimp [hw, ht, hlt, hx, hxe, hz2, hz3, hs]) | (refine CallE.pure (c4) ?_; try simp -dsimp [hw, ht, hlt, hx, hxe, hz2, hz3, hs]) | (refine CallE.pure (c5) ?_; try simp -dsimp [hw, ht, hlt, hx, hxe, hz2, hz3, hs]) | (refine CallE.pure (c6) ?_; try simp -dsimp [hw, ht, hlt, hx, hxe, hz2, hz3, hs]) | (refine DT_freezeRR ?_; try simp -dsimp [hw, ht, hlt, hx, hxe, hz2, hz3, hs]) | (refine CallE.pure (c7) ?_; try simp -dsimp [hw, ht, hlt, hx, hxe, hz2, hz3, hs]) | (refine QCall_pure (c8) ?_; try simp -dsimp [hw, ht, hlt, hx, hxe, hz2, hz3, hs]) | (refine QCall_pure (c9) ?_; try simp -dsimp [hw, ht, hlt, hx, hxe, hz2, hz3, hs]) | (refine QCall_pure (c10) ?_; try simp -dsimp [hw, ht, hlt, hx, hxe, hz2, hz3, hs]) | (refine CallE.pure (d1) ?_; try simp -dsimp [hw, ht, hlt, hx, hxe, hz2, hz3, hs]) | (refine CallE.pure (d2) ?_; try simp -dsimp [hw, ht, hlt, hx, hxe, hz2, hz3, hs]) | (refine DT_regionM (id := 10) (nt := 172) 11 [0,1,2,3,4,8,9,10,11,12,13,14,15,16,17,18,19,20,21,22,23,25,39,113,118,131,132,133,134,148] mixed rfl (by kernel_rfl) ?_; simp -dsimp [hw, ht, hlt, hx, hxe, hz2, hz3, hs]) | (refine DT_regionM (id := 11) (nt := 172) 11 [0,1,2,3,4,8,9,10,11,12,13,14,15,16,17,18,19,20,21,22,23,25,39,113,118,131,132,133,134,148] mixed rfl (by kernel_rfl) ?_; simp -dsimp [hw, ht, hlt, hx, hxe, hz2, hz3, hs]) | (refine DT_regionX (id := 5) (nt := 172) 11 [] [0,1,2,3,4,8,9,10,11,12,13,14,15,16,17,18,19,20,21,22,23,25,39,46,47,48,49,50,51,52,53,54,55,113,118,131,132,133,134,148] [0,1,2,3,4,8,9,10,11,12,13,14,15,16,17,18,19,20,21,22,23,25,39,113,118,131,132,133,134,148] mixed rfl (by kernel_rfl) ?_; simp -dsimp [hw, ht, hlt, hx, hxe, hz2, hz3, hs]) | (with_reducible refine DT_regionE [0,1,2,3,4,8,9,10,11,12,13,14,15,16,17,18,19,20,21,22,23,25,39,113,118,131,132,133,134,148] ?_; simp -dsimp [hw, ht, hlt, hx, hxe, hz2, hz3, hs]) | (refine DT_cond rfl (fun h => ?_) (fun h => ?_) <;> (try simp only [nrm] at h) <;> (try exact Bool.noConfusion h))
        all_goals try simp -dsimp [hw, ht, hlt, hx, hxe, hz2, hz3, hs]
        all_goals try clear hs
        have f4 := fun h => f4 h hm
        refine DT_loop (ι := { k : Nat // k ≤ n.notes.length }) (fun p => ⟨172, [(9, bv true), (12, .one (.im (.ip (encNote x)))), (13, isv I), (19, isv I'), (23, bv (decide (i < p.1))), (131, .one (.im (.sl (n.notes.map encNote)))), (132, iv (n.notes.length : Int)), (133, iv (p.1 : Int))], []⟩) (fun p => n.notes.length - p.1) ⟨0, by simp⟩ (Weak.of_drop [9,12,13,19,23,131,132,133] 0 (by simp) (by simp) (by simp)) ?_
        clear d1 d2
        rintro ⟨k, hk⟩
        simp only [iv, isv, bv]
        by_cases hkl : k < n.notes.length
        · have hwk : IntKind.i64.wrap ((k : Int) + 1) = ((k + 1 : Nat) : Int) := i64w (by omega) (by omega)
          have hy : n.notes[k]? = some n.notes[k] := List.getElem?_eq_getElem hkl
          have h1 := f3 k n.notes[k]
          have h2 := fun (e : n.notes[k].number = x.number) => allOk_one hok hx hy e
          generalize hye : n.notes[k] = y at *
          have d3 := c11 y.number
          have d4 := c12 y.number
          by_cases hik : i < k
          · rw [h1 hik hy] at d3
            generalize decide (y.number ∈ I') = e at *
            have h9 : i < k + 1 := by omega
            cases e
            all_goals simp only [decide_eq_true hik]
            · have hs : True := trivial
              repeat' first | (with_reducible first | refine q01 ?_ | refine q04 ?_ | refine q11 ?_ | refine q12 ?_ | refine q14 ?_) | (refine QCall_pure (d3) ?_; try simp -dsimp [hkl, hwk, hye, hy, hik, hs]) | (refine QCall_pure (d4) ?_; try simp -dsimp [hkl, hwk, hye, hy, hik, hs]) | (refine DT_regionM (id := 20) (nt := 172) 12 [0,1,2,3,4,8,9,10,11,12,13,14,15,16,17,18,19,20,21,22,23,25,39,113,118,131,132,133,134,148] mixed rfl (by kernel_rfl) ?_; simp -dsimp [hkl, hwk, hye, hy, hik, hs]) | (with_reducible refine DT_regionE [0,1,2,3,4,8,9,10,11,12,13,14,15,16,17,18,19,20,21,22,23,25,39,113,118,131,132,133,134,148] ?_; simp -dsimp [hkl, hwk, hye, hy, hik, hs]) | (refine DT_cond rfl (fun h => ?_) (fun h => ?_) <;> (try simp only [nrm] at h) <;> (try exact Bool.noConfusion h))
              all_goals try simp -dsimp [hkl, hwk, hye, hy, hik, hs]
              all_goals try clear hs
              all_goals exact At.round ⟨k + 1, by omega⟩ (by simp; omega) (Weak.of_drop [9,12,13,19,23,131,132,133] 0 (by simp) (by simp) (by simp [h9]))
            · have hs : True := trivial
              repeat' first | (with_reducible first | refine q01 ?_ | refine q04 ?_ | refine q11 ?_ | refine q12 ?_ | refine q14 ?_) | (refine QCall_pure (d3) ?_; try simp -dsimp [hkl, hwk, hye, hy, hik, hs]) | (refine QCall_pure (d4) ?_; try simp -dsimp [hkl, hwk, hye, hy, hik, hs]) | (refine DT_regionM (id := 20) (nt := 172) 12 [0,1,2,3,4,8,9,10,11,12,13,14,15,16,17,18,19,20,21,22,23,25,39,113,118,131,132,133,134,148] mixed rfl (by kernel_rfl) ?_; simp -dsimp [hkl, hwk, hye, hy, hik, hs]) | (with_reducible refine DT_regionE [0,1,2,3,4,8,9,10,11,12,13,14,15,16,17,18,19,20,21,22,23,25,39,113,118,131,132,133,134,148] ?_; simp -dsimp [hkl, hwk, hye, hy, hik, hs]) | (refine DT_cond rfl (fun h => ?_) (fun h => ?_) <;> (try simp only [nrm] at h) <;> (try exact Bool.noConfusion h))
              all_goals try simp -dsimp [hkl, hwk, hye, hy, hik, hs]
              all_goals try clear hs
              all_goals exact At.round ⟨k + 1, by omega⟩ (by simp; omega) (Weak.of_drop [9,12,13,19,23,131,132,133] 0 (by simp) (by simp) (by simp [h9]))
          · by_cases hki : k = i
            · subst hki
              rw [hxe] at hye
              subst hye
              simp only [decide_eq_false hik]
              have hs : True := trivial
              repeat' first | (with_reducible first | refine q01 ?_ | refine q04 ?_ | refine q11 ?_ | refine q12 ?_ | refine q14 ?_) | (refine DT_regionM (id := 20) (nt := 172) 12 [0,1,2,3,4,8,9,10,11,12,13,14,15,16,17,18,19,20,21,22,23,25,39,113,118,131,132,133,134,148] mixed rfl (by kernel_rfl) ?_; simp -dsimp [hkl, hwk, hxe, hy, hik, hs]) | (with_reducible refine DT_regionE [0,1,2,3,4,8,9,10,11,12,13,14,15,16,17,18,19,20,21,22,23,25,39,113,118,131,132,133,134,148] ?_; simp -dsimp [hkl, hwk, hxe, hy, hik, hs]) | (refine DT_cond rfl (fun h => ?_) (fun h => ?_) <;> (try simp only [nrm] at h) <;> (try exact Bool.noConfusion h))
              all_goals try simp -dsimp [hkl, hwk, hxe, hy, hik, hs]
              all_goals try clear hs
              all_goals exact At.round ⟨k + 1, by omega⟩ (by simp; omega) (Weak.of_drop [9,12,13,19,23,131,132,133] 0 (by simp) (by simp) (by simp))
            · have hne : ¬ y.number = x.number := fun e => hki (h2 e)
              have h9 : ¬ i < k + 1 := by omega
              simp only [decide_eq_false hik]
              have hs : True := trivial
              repeat' first | (with_reducible first | refine q01 ?_ | refine q04 ?_ | refine q11 ?_ | refine q12 ?_ | refine q14 ?_) | (refine DT_regionM (id := 20) (nt := 172) 12 [0,1,2,3,4,8,9,10,11,12,13,14,15,16,17,18,19,20,21,22,23,25,39,113,118,131,132,133,134,148] mixed rfl (by kernel_rfl) ?_; simp -dsimp [hkl, hwk, hye, hy, hik, hne, hs]) | (with_reducible refine DT_regionE [0,1,2,3,4,8,9,10,11,12,13,14,15,16,17,18,19,20,21,22,23,25,39,113,118,131,132,133,134,148] ?_; simp -dsimp [hkl, hwk, hye, hy, hik, hne, hs]) | (refine DT_cond rfl (fun h => ?_) (fun h => ?_) <;> (try simp only [nrm] at h) <;> (try exact Bool.noConfusion h))
              all_goals try simp -dsimp [hkl, hwk, hye, hy, hik, hne, hs]
              all_goals try clear hs
              all_goals exact At.round ⟨k + 1, by omega⟩ (by simp; omega) (Weak.of_drop [9,12,13,19,23,131,132,133] 0 (by simp) (by simp) (by simp [h9]))
        · obtain rfl : k = n.notes.length := by omega
          by_cases hc : 0 < x.cancels
          · have hs : True := trivial
            repeat' first | (with_reducible first | refine q01 ?_ | refine q03 ?_ | refine q06 ?_ | refine q11 ?_ | refine q16 ?_ | refine q17 ?_) | (with_reducible refine At.fn_ret (by simp -dsimp [hkl, hc, hs]; exact rfl) ?_) | (with_reducible refine DT_regionE [0,1,2,3,4,8,9,10,11,12,13,14,15,16,17,18,19,20,21,22,23,25,39,113,118,131,132,133,134,148] ?_; simp -dsimp [hkl, hc, hs]) | (refine DT_cond rfl (fun h => ?_) (fun h => ?_) <;> (try simp only [nrm] at h) <;> (try exact Bool.noConfusion h))
            all_goals try simp -dsimp [hkl, hc, hs]
            all_goals try clear hs
          · have e := f4 (by omega)
            have hwl : IntKind.i64.wrap ((I.length : Int) - 1) = (I'.length : Int) := by rw [show (I.length : Int) - 1 = (I'.length : Int) by omega]; exact i64w (by omega) (by omega)
            have hs : True := trivial
            repeat' first | (with_reducible first | refine q01 ?_ | refine q03 ?_ | refine q06 ?_ | refine q11 ?_ | refine q16 ?_ | refine q17 ?_) | (with_reducible refine At.fn_ret (by simp -dsimp [hkl, hc, hwl, hs]; exact rfl) ?_) | (with_reducible refine DT_regionE [0,1,2,3,4,8,9,10,11,12,13,14,15,16,17,18,19,20,21,22,23,25,39,113,118,131,132,133,134,148] ?_; simp -dsimp [hkl, hc, hwl, hs]) | (refine DT_cond rfl (fun h => ?_) (fun h => ?_) <;> (try simp only [nrm] at h) <;> (try exact Bool.noConfusion h))
            all_goals try simp -dsimp [hkl, hc, hwl, hs]
            all_goals try clear hs
      · obtain rfl := f6 hm
        obtain rfl := f5 hm
        rw [decide_eq_false hm] at d1
        simp only [decide_true] at c13 c14
        have hs : True := trivial
        repeat' first | (with_reducible first | refine q01 ?_ | refine q02 ?_ | refine q11 ?_ | refine q14 ?_ | refine q17 ?_) | (with_reducible refine At.fn_ret (by simp -dsimp [hw, ht, hlt, hx, hxe, hz2, hz3, hs]; exact rfl) ?_) | (refine CallE.pure (c1) ?_; try simp -dsimp [hw, ht, hlt, hx, hxe, hz2, hz3, hs]) | (refine CallE.pure (c2) ?_; try simp -dsimp [hw, ht, hlt, hx, hxe, hz2, hz3, hs]) | (refine CallE.pure (c3) ?_; try simp -dsimp [hw, ht, hlt, hx, hxe, hz2, hz3, hs]) | (refine CallE.pure (c4) ?_; try simp -dsimp [hw, ht, hlt, hx, hxe, hz2, hz3, hs]) | (refine CallE.pure (c5) ?_; try simp -dsimp [hw, ht, hlt, hx, hxe, hz2, hz3, hs]) | (refine CallE.pure (c6) ?_; try simp -dsimp [hw, ht, hlt, hx, hxe, hz2, hz3, hs]) | (refine DT_freezeRR ?_; try simp -dsimp [hw, ht, hlt, hx, hxe, hz2, hz3, hs]) | (refine CallE.pure (c7) ?_; try simp -dsimp [hw, ht, hlt, hx, hxe, hz2, hz3, hs]) | (refine QCall_pure (c8) ?_; try simp -dsimp [hw, ht, hlt, hx, hxe, hz2, hz3, hs]) | (refine QCall_pure (c9) ?_; try simp -dsimp [hw, ht, hlt, hx, hxe, hz2, hz3, hs]) | (refine QCall_pure (c10) ?_; try simp -dsimp [hw, ht, hlt, hx, hxe, hz2, hz3, hs]) | (refine CallE.pure (d1) ?_; try simp -dsimp [hw, ht, hlt, hx, hxe, hz2, hz3, hs]) | (refine CallE.pure (c13) ?_; try simp -dsimp [hw, ht, hlt, hx, hxe, hz2, hz3, hs]) | (refine CallE.pure (c14) ?_; try simp -dsimp [hw, ht, hlt, hx, hxe, hz2, hz3, hs]) | (refine DT_regionM (id := 10) (nt := 172) 11 [0,1,2,3,4,8,9,10,11,12,13,14,15,16,17,18,19,20,21,22,23,25,39,113,118,131,132,133,134,148] mixed rfl (by kernel_rfl) ?_; simp -dsimp [hw, ht, hlt, hx, hxe, hz2, hz3, hs]) | (refine DT_regionM (id := 11) (nt := 172) 11 [0,1,2,3,4,8,9,10,11,12,13,14,15,16,17,18,19,20,21,22,23,25,39,113,118,131,132,133,134,148] mixed rfl (by kernel_rfl) ?_; simp -dsimp [hw, ht, hlt, hx, hxe, hz2, hz3, hs]) | (refine DT_regionX (id := 5) (nt := 172) 11 [] [0,1,2,3,4,8,9,10,11,12,13,14,15,16,17,18,19,20,21,22,23,25,39,46,47,48,49,50,51,52,53,54,55,113,118,131,132,133,134,148] [0,1,2,3,4,8,9,10,11,12,13,14,15,16,17,18,19,20,21,22,23,25,39,113,118,131,132,133,134,148] mixed rfl (by kernel_rfl) ?_; simp -dsimp [hw, ht, hlt, hx, hxe, hz2, hz3, hs]) | (with_reducible refine DT_regionE [0,1,2,3,4,8,9,10,11,12,13,14,15,16,17,18,19,20,21,22,23,25,39,113,118,131,132,133,134,148] ?_; simp -dsimp [hw, ht, hlt, hx, hxe, hz2, hz3, hs]) | (refine DT_cond rfl (fun h => ?_) (fun h => ?_) <;> (try simp only [nrm] at h) <;> (try exact Bool.noConfusion h))
        all_goals try simp -dsimp [hw, ht, hlt, hx, hxe, hz2, hz3, hs]
        all_goals try clear hs
end Go.Proofs
