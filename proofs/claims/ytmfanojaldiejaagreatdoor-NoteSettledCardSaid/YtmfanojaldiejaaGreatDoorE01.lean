/- Part 31 of the proofs: laws and walks that hold without conditions beyond those that each theorem names. -/
import Derived.Test.YtmfanojaldiejaaGreatDoorA23
import Derived.Test.YtmfanojaldiejaaGreatDoorA24
import Derived.Test.YtmfanojaldiejaaGreatDoorA25
import Derived.Test.YtmfanojaldiejaaGreatDoorA26
import Derived.Test.YtmfanojaldiejaaGreatDoorA27
set_option linter.all false
set_option linter.deprecated false
namespace Go.Proofs
open Go Go.Ab
theorem lettersK_ext {n n' : Notes} {s s' : List Int} {m : Int} (hr : n'.reg = n.reg) (h : ∀ d, letF n' s' d m = letF n s d m) : lettersK n' s' m = lettersK n s m := by
  unfold lettersK
  rw [hr]
  exact List.map_congr_left fun d _ => h d
end Go.Proofs
namespace Go.Proofs
open Go Go.Ab
set_option linter.unusedSimpArgs false
variable {G : Nat → Option (List IC)}
def setN (n : Notes) (i : Nat) (v : Int) : Notes := ⟨n.reg, setSg n.notes i v⟩
theorem setSg_mem {l : List Note} {i : Nat} {v : Int} {y : Note} (h : y ∈ setSg l i v) : ∃ x ∈ l, y = x ∨ y = sgn x v := by
  obtain ⟨j, hj⟩ := List.mem_iff_getElem?.1 h
  obtain ⟨x, h1, h2⟩ := setSg_at hj
  refine ⟨x, List.mem_of_getElem? h1, ?_⟩
  split at h2
  · exact .inr h2
  · exact .inl h2
theorem NKind.set {n : Notes} (hk : NKind n) {i : Nat} {v : Int} (hv : 0 ≤ v ∧ v ≤ 2) : NKind (setN n i v) := by
  refine ⟨hk.1, fun y hy => ?_⟩
  obtain ⟨x, hx, h⟩ := setSg_mem hy
  have := hk.2 x hx
  rcases h with rfl | rfl
  · exact this
  · exact ⟨this.1, this.2.1, by simp [sgn]; omega, by simp [sgn]; omega⟩
theorem RF.set {n : Notes} (R : RF n) (hk : NKind n) {i : Nat} {x : Note} (hx : n.notes[i]? = some x) {v : Int} (hv : 0 ≤ v ∧ v ≤ 2) (h1 : v ≠ 1) : readyB (setN n i v) = true := by
  have hl : (setSg n.notes i v).length = n.notes.length := setSg_len _ _ _
  have h0 : smallNB (setN n i v) = true := by
    unfold smallNB
    rw [Bool.and_eq_true]
    exact ⟨decide_eq_true R.sn.1, decide_eq_true (by show (setSg n.notes i v).length ≤ 16; rw [hl]; exact R.sn.2)⟩
  have h2 : notesE (setN n i v) = 0 := by
    unfold notesE
    rw [if_neg (by simp [setN, R.c]), if_pos]
    refine notesB_iff.2 ⟨by show (setSg n.notes i v).length ≤ 12; rw [hl]; exact R.l, allOk_set R.ok hv i, ?_⟩
    have := open_list R.ok hx hv h1
    rw [← isortL, show (setN n i v).notes = setSg n.notes i v from rfl, this]
    exact Nat.le_trans (List.length_filter_le _ _) R.o5
  simp [readyB, h0, h2]
theorem RF.openAt {n : Notes} (_R : RF n) {j : Nat} (hj : j < (isort (openL n.notes)).length) : ∃ (i : Nat) (x : Note), (idxv (openI n.notes))[j]? = some (i : Int) ∧ n.notes[i]? = some x ∧ (isort (openL n.notes))[j]? = some x.number ∧ x.signed = 1 := by
  have hnu := openI_nums (n := n)
  have hOl : (isort (openL n.notes)).length = (openI n.notes).length := by rw [← hnu, List.length_map]
  have hi : j < (openI n.notes).length := by omega
  obtain ⟨h1, h2⟩ := (openI_to n.notes).lt _ (List.getElem_mem hi)
  refine ⟨(openI n.notes)[j], n.notes[(openI n.notes)[j]], by simp [idxv, hi], List.getElem?_eq_getElem h1, ?_, ?_⟩
  · rw [← hnu, List.getElem?_map, List.getElem?_eq_getElem hi]
    simp [numAt, h1]
  · simpa [opAt, List.getElem?_eq_getElem h1] using h2
theorem RF.settle {n : Notes} (R : RF n) {i : Nat} {x : Note} (hx : n.notes[i]? = some x) (ho : x.signed = 1) (b : Bool) : settleE n x.number = 0 ∧ settleN n x.number b = setN n i (if b = true then 2 else 0) := by
  have hE : settleE n x.number = 0 := by unfold settleE; rw [if_neg (by simp [R.e]), if_pos (open_mem.2 ⟨i, x, hx, rfl, ho⟩)]
  refine ⟨hE, ?_⟩
  unfold settleN settleL setN
  rw [if_pos hE, settleI_at R.ok hx]
end Go.Proofs
namespace Go.Proofs
open Go Go.Ab
def drawL (l : List Note) (w : List Int) : List Note := l.map fun x => if x.number ∈ w then sgn x 0 else x
end Go.Proofs
namespace Go.Proofs
open Go Go.Ab
set_option linter.unusedSimpArgs false
variable {G : Nat → Option (List IC)}
def drF (w : List Int) (x : Note) : Note := if x.number ∈ w then sgn x 0 else x
def drTo (L : List Note) (w : List Int) (k : Nat) : List Note := (L.take k).map (drF w) ++ L.drop k
theorem drTo_zero (L : List Note) (w : List Int) : drTo L w 0 = L := by simp [drTo]
theorem drTo_all (L : List Note) (w : List Int) : drTo L w L.length = drawL L w := by simp [drTo, drawL, drF]
theorem drTo_at {L : List Note} {w : List Int} {k : Nat} (h : k < L.length) : (drTo L w k)[k]? = some L[k] := by
  unfold drTo
  rw [List.getElem?_append_right (by simp; omega)]
  simp [Nat.min_eq_left (Nat.le_of_lt h), h]
theorem drTo_succ {L : List Note} {w : List Int} {k : Nat} (h : k < L.length) : drTo L w (k + 1) = (drTo L w k).set k (drF w L[k]) := by
  unfold drTo
  rw [List.take_succ_eq_append_getElem h, List.map_append, List.map_singleton, List.append_assoc, List.singleton_append]
  rw [List.set_append_right _ _ (by simp; omega)]
  rw [List.length_map, List.length_take, Nat.min_eq_left (Nat.le_of_lt h), Nat.sub_self]
  rw [List.drop_eq_getElem_cons h, List.set_cons_zero]
theorem setSame {α : Type} {l : List α} {k : Nat} {x : α} (h : l[k]? = some x) : l.set k x = l := by
  obtain ⟨h1, h2⟩ := List.getElem?_eq_some_iff.1 h
  rw [← h2, List.set_getElem_self]
end Go.Proofs
namespace Go.Proofs
open Go Go.Ab
end Go.Proofs
namespace Go.Proofs
open Go Go.Ab
structure SegOk (f : Int → Int) (k : Int) (L : List Str) : Prop where
  last : ∃ y, L.getLast? = some y ∧ y.to = k
  first : ∀ y, L[0]? = some y → y.frm = 1
  each : ∀ (i : Nat) (y : Str), L[i]? = some y → 1 ≤ y.frm ∧ y.frm ≤ y.to ∧ y.to ≤ k ∧ ∀ m, y.frm ≤ m → m ≤ y.to → f m = y.letter
  next : ∀ (i : Nat) (y z : Str), L[i]? = some y → L[i + 1]? = some z → y.to + 1 = z.frm ∧ y.letter ≠ z.letter
end Go.Proofs
namespace Go.Proofs
open Go Go.Ab
theorem count_set {F : List Bool} {i : Nat} (h : F[i]? = some true) : (F.set i false).count true + 1 = F.count true := by
  induction F generalizing i with
  | nil => simp at h
  | cons f F ih =>
    cases i with
    | zero => simp at h; subst h; simp
    | succ i =>
      have := ih (by simpa using h)
      simp only [List.set_cons_succ, List.count_cons]
      omega
end Go.Proofs
namespace Go.Proofs
open Go Go.Ab
set_option linter.unusedSimpArgs false
variable {G : Nat → Option (List IC)}
theorem drTo_setSg {L : List Note} {w : List Int} {k : Nat} (h : k < L.length) : drTo L w (k + 1) = if L[k].number ∈ w then setSg (drTo L w k) k 0 else drTo L w k := by
  rw [drTo_succ h]
  have h1 := drTo_at (w := w) h
  unfold drF
  split
  · unfold setSg; rw [h1]
  · exact setSame h1
theorem allOk_draw {n : Notes} (hok : allOk n) (w : List Int) : allOk ⟨n.reg, drawL n.notes w⟩ := by
  have : ∀ k, k ≤ n.notes.length → allOk ⟨n.reg, drTo n.notes w k⟩ := by
    intro k
    induction k with
    | zero => intro _; rw [drTo_zero]; exact hok
    | succ k ih =>
      intro h
      rw [drTo_setSg (by omega)]
      split
      · exact allOk_set (n := ⟨n.reg, drTo n.notes w k⟩) (ih (by omega)) (by omega) k
      · exact ih (by omega)
  have h := this _ (Nat.le_refl _)
  rwa [drTo_all] at h
theorem drawL_get (l : List Note) (w : List Int) (k : Nat) : (drawL l w)[k]? = (l[k]?).map (drF w) := by rw [show drawL l w = l.map (drF w) from rfl, List.getElem?_map]
theorem drF_number (w : List Int) (x : Note) : (drF w x).number = x.number := by unfold drF; split <;> rfl
theorem open_draw {l : List Note} {w : List Int} {a : Int} : a ∈ openL (drawL l w) ↔ a ∈ openL l ∧ a ∉ w := by
  rw [open_mem, open_mem]
  constructor
  · rintro ⟨k, y, h1, h2, h3⟩
    rw [drawL_get, Option.map_eq_some_iff] at h1
    obtain ⟨x, h4, rfl⟩ := h1
    rw [drF_number] at h2
    by_cases hw : x.number ∈ w
    · simp [drF, hw, sgn] at h3
    · simp only [drF, if_neg hw] at h3
      exact ⟨⟨k, x, h4, h2, h3⟩, h2 ▸ hw⟩
  · rintro ⟨⟨k, x, h1, h2, h3⟩, hw⟩
    refine ⟨k, x, ?_, h2, h3⟩
    rw [drawL_get, h1, Option.map_some, drF, if_neg (by rw [h2]; exact hw)]
theorem open_drawL {n : Notes} (hok : allOk n) (w : List Int) : isort (openL (drawL n.notes w)) = (isort (openL n.notes)).filter fun a => decide (a ∉ w) := by
  refine strict_eq (isort_strict (openL_nodup (allOk_draw hok w))) ((isort_strict (openL_nodup hok)).filter _) fun a => ?_
  rw [isort_mem, open_draw, List.mem_filter, isort_mem, decide_eq_true_eq]
theorem NKind.draw {n : Notes} (hk : NKind n) (w : List Int) : NKind ⟨n.reg, drawL n.notes w⟩ := by
  refine ⟨hk.1, fun y hy => ?_⟩
  obtain ⟨k, hy⟩ := List.mem_iff_getElem?.1 hy
  rw [show (Notes.mk n.reg (drawL n.notes w)).notes = drawL n.notes w from rfl, drawL_get, Option.map_eq_some_iff] at hy
  obtain ⟨x, h1, rfl⟩ := hy
  have := hk.2 x (List.mem_of_getElem? h1)
  unfold drF
  split
  · exact ⟨this.1, this.2.1, by simp [sgn], by simp [sgn]⟩
  · exact this
theorem drawL_len (l : List Note) (w : List Int) : (drawL l w).length = l.length := by simp [drawL]
theorem RF.draw {n : Notes} (R : RF n) (w : List Int) : readyB ⟨n.reg, drawL n.notes w⟩ = true := by
  have hl := drawL_len n.notes w
  have h0 : smallNB ⟨n.reg, drawL n.notes w⟩ = true := by
    unfold smallNB
    rw [Bool.and_eq_true]
    exact ⟨decide_eq_true R.sn.1, decide_eq_true (by show (drawL n.notes w).length ≤ 16; rw [hl]; exact R.sn.2)⟩
  have h2 : notesE ⟨n.reg, drawL n.notes w⟩ = 0 := by
    unfold notesE
    rw [if_neg (by simp [R.c]), if_pos]
    refine notesB_iff.2 ⟨by show (drawL n.notes w).length ≤ 12; rw [hl]; exact R.l, allOk_draw R.ok w, ?_⟩
    have := open_drawL R.ok w
    rw [← isortL, this]
    exact Nat.le_trans (List.length_filter_le _ _) R.o5
  simp [readyB, h0, h2]
theorem RF.left {n : Notes} (R : RF n) {t : List Int} (ht : t.Sublist (isort (openL n.notes))) (w : List Int) : (t.filter fun a => decide (a ∉ w)).Sublist (isort (openL (drawL n.notes w))) := by
  rw [open_drawL R.ok]; exact ht.filter _
end Go.Proofs
namespace Go.Proofs
open Go Go.Ab
set_option linter.unusedSimpArgs false
variable {G : Nat → Option (List IC)}
theorem openI_len (n : Notes) : (idxv (openI n.notes)).length = (isort (openL n.notes)).length := by
  rw [← openI_nums]; simp [idxv]
theorem filter_ne_len {O : List Int} (hO : O.Nodup) {a : Int} (h : a ∈ O) : (O.filter fun y => decide (y ≠ a)).length + 1 = O.length := by
  induction O with
  | nil => cases h
  | cons b O ih =>
    rw [List.nodup_cons] at hO
    by_cases e : b = a
    · subst e
      rw [List.filter_cons_of_neg (by simp), List.filter_eq_self.2 fun y hy => decide_eq_true (by rintro rfl; exact hO.1 hy)]; rfl
    · rw [List.filter_cons_of_pos (by simpa using e), List.length_cons, List.length_cons]
      rcases List.mem_cons.1 h with h | h
      · exact absurd h.symm e
      · have := ih hO.2 h; omega
theorem settled_facts {n : Notes} (R : RF n) {i : Nat} {x : Note} (hx : n.notes[i]? = some x) (ho : x.signed = 1) (D M : Int) {L A B : List Int} (hL : L = posL n D M) (hA : A = posL (setN n i 2) D M) (hB : B = posL (setN n i 0) D M) :
    (∀ k ∈ L, k ∈ A ∨ k ∈ B) ∧ (∀ k ∈ A, k ∈ L) ∧ (∀ k ∈ B, k ∈ L) := by
  have h := fun k => pos_settle R.ok hx ho D M k
  subst hL hA hB
  exact ⟨fun k hk => (h k).1 hk, fun k hk => (h k).2 (.inl hk), fun k hk => (h k).2 (.inr hk)⟩
theorem settled_letters {n : Notes} (R : RF n) {i : Nat} {x : Note} (hx : n.notes[i]? = some x) (ho : x.signed = 1) (t : List Int) (M : Int) :
    (x.number ∈ t → lettersK (setN n i 2) (t.filter fun y => decide (y ≠ x.number)) M = lettersK n t M) ∧ (x.number ∉ t → lettersK (setN n i 0) (t.filter fun y => decide (y ≠ x.number)) M = lettersK n t M) := by
  refine ⟨fun h => lettersK_ext rfl fun d => letF_yes R.ok hx (fun y => ?_) d M, fun h => ?_⟩
  · rw [List.mem_filter, decide_eq_true_eq]
    exact ⟨fun hy => by
      by_cases e : y = x.number
      · exact .inr e
      · exact .inl ⟨hy, e⟩, fun hy => hy.elim And.left fun e => e ▸ h⟩
  · rw [List.filter_eq_self.2 fun y hy => decide_eq_true (by rintro rfl; exact h hy)]
    exact lettersK_ext rfl fun d => letF_no hx ho h d M
theorem RF.rest {n : Notes} (R : RF n) {i : Nat} {x : Note} (hx : n.notes[i]? = some x) {v : Int} (hv : 0 ≤ v ∧ v ≤ 2) (h1 : v ≠ 1) {t : List Int} (ht : t.Sublist (isort (openL n.notes))) : (t.filter fun y => decide (y ≠ x.number)).Sublist (isort (openL (setN n i v).notes)) := by
  rw [show (setN n i v).notes = setSg n.notes i v from rfl, open_list R.ok hx hv h1]; exact ht.filter _
set_option maxHeartbeats 8000000 in
theorem noteSettled_c (n : Notes) (m d b : Nat) (hG : sheetG G) (hN : noteG G) (hS : SortOk G) (hk : NKind n) (hm : m < 65536) (hd : d < 256) (hb : b < 256) (objs : List DObj) : DCall Tryz.prog G 4 [notesv n, u16v (m : Int), u8V (d : Int), u8V (b : Int)] objs (fun rr objs' => rr = bv true ∧ objs' = objs) := by
  refine DCall.frame ?_ (by simp) (by simp) objs
  refine DCall_intro Tryz.func4 rfl Tryz.ntmps4 (by simp) rfl ?_
  try simp only [notesv]
  have c1 := alive_c hG hN hS
  have c2 := ready_c (G := G) n hk
  cases hq : readyB n
  · rw [hq] at c2
    have hs : True := trivial
    repeat' first | (with_reducible first | refine q01 ?_ | refine q02 ?_ | refine q11 ?_ | refine q17 ?_) | (with_reducible refine At.fn_ret (by simp -dsimp [hs]; exact rfl) ?_) | (refine CallE.pure (c1) ?_; try simp -dsimp [hs]) | (refine CallE.pure (c2) ?_; try simp -dsimp [hs]) | (with_reducible refine DT_regionE [0,1,2,3,4,8,9,10,11,13,15,16,17,18,19,20,22,23,24,25,27,29,31,32,34,35,36,37,38,39,47,62,136,167,168,169,170,171,183,189,190,191,192,198,201,202,203,204,207,208,209,210,216,227,254] ?_; simp -dsimp [hs]) | (refine DT_cond rfl (fun h => ?_) (fun h => ?_) <;> (try simp only [nrm] at h) <;> (try exact Bool.noConfusion h))
    all_goals try simp -dsimp [hs]
    all_goals try clear hs
  · have R := readyRF hk hq
    rw [hq] at c2
    have c3 := machineOf_c (G := G) m hm
    have c4 := drawingOf_c (G := G) n.reg d (by have := R.s.1.1; omega) R.ne hd
    have hM : 1 ≤ ((m % 999 + 1 : Nat) : Int) ∧ ((m % 999 + 1 : Nat) : Int) ≤ 999 := by omega
    generalize ((m % 999 + 1 : Nat) : Int) = M at *
    have hat : d % (nums n.reg).length < (nums n.reg).length := Nat.mod_lt _ (by have := R.ne; cases h : nums n.reg <;> simp_all)
    generalize d % (nums n.reg).length = a at *
    have hD : (nums n.reg)[a]? = some ((nums n.reg).getD a 0) := by simp [hat]
    have hDm := List.mem_of_getElem? hD
    generalize (nums n.reg).getD a 0 = D at *
    have c5 := open3_c (G := G) n R.s R.ok
    have hO := isort_strict (openL_nodup R.ok)
    have hO5 := R.o5
    have hJl := openI_len n
    have hw : IntKind.i64.wrap (b : Int) = b := i64w (by omega) (by omega)
    by_cases hz : (isort (openL n.notes)).length = 0
    · have hz1 : (idxv (openI n.notes)).length = 0 := by omega
      have c6 := nSettle_c (G := G) n (b : Int) true hG hN hS R.sn R.s
      have hE : settleE n (b : Int) = 6 := by
        unfold settleE
        rw [if_neg (by simp [R.e]), if_neg fun h => by
          rw [← isort_mem, List.eq_nil_of_length_eq_zero hz] at h; cases h]
      have hNn : settleN n (b : Int) true = ⟨[], []⟩ := by unfold settleN; rw [if_neg (by rw [hE]; omega)]
      rw [hE, hNn] at c6
      generalize idxv (openI n.notes) = J at *
      obtain rfl := List.eq_nil_of_length_eq_zero hz1
      clear hG hN hS
      have hs : True := trivial
      repeat' first | (with_reducible first | refine q01 ?_ | refine q02 ?_ | refine q11 ?_ | refine q14 ?_ | refine q17 ?_) | (with_reducible refine At.fn_ret (by simp -dsimp [hw, hs]; exact rfl) ?_) | (refine CallE.pure (c1) ?_; try simp -dsimp [hw, hs]) | (refine CallE.pure (c2) ?_; try simp -dsimp [hw, hs]) | (refine CallE.pure (c3) ?_; try simp -dsimp [hw, hs]) | (refine CallE.pure (c4) ?_; try simp -dsimp [hw, hs]) | (refine CallE.pure (c5) ?_; try simp -dsimp [hw, hs]) | (refine CallE.pure (c6) ?_; try simp -dsimp [hw, hs]) | (with_reducible refine DT_regionE [0,1,2,3,4,8,9,10,11,13,15,16,17,18,19,20,22,23,24,25,27,29,31,32,34,35,36,37,38,39,47,62,136,167,168,169,170,171,183,189,190,191,192,198,201,202,203,204,207,208,209,210,216,227,254] ?_; simp -dsimp [hw, hs]) | (refine DT_cond rfl (fun h => ?_) (fun h => ?_) <;> (try simp only [nrm] at h) <;> (try exact Bool.noConfusion h))
      all_goals try simp -dsimp [hw, hs]
      all_goals try clear hs
    · have hlt : b % (isort (openL n.notes)).length < (isort (openL n.notes)).length := Nat.mod_lt _ (by omega)
      have ht : (b : Int).tmod ((isort (openL n.notes)).length : Int) = ((b % (isort (openL n.notes)).length : Nat) : Int) := by rw [Int.tmod_eq_emod_of_nonneg (by omega)]; simp
      obtain ⟨i, x, hJ, hx, hOj, ho⟩ := R.openAt hlt
      have hil := lt_of_getElem? hx
      have hxe : n.notes[i] = x := (List.getElem?_eq_some_iff.1 hx).2
      generalize hj : b % (isort (openL n.notes)).length = j at *
      have c7 := nSettle_c (G := G) n x.number true hG hN hS R.sn R.s
      have c8 := nSettle_c (G := G) n x.number false hG hN hS R.sn R.s
      rw [(R.settle hx ho true).1, (R.settle hx ho true).2] at c7
      rw [(R.settle hx ho false).1, (R.settle hx ho false).2] at c8
      simp only [if_true, Bool.false_eq_true, if_false] at c7 c8
      have ky := NKind.set hk (i := i) (v := 2) (by omega)
      have kn := NKind.set hk (i := i) (v := 0) (by omega)
      have ry := R.set hk hx (v := 2) (by omega) (by omega)
      have rn := R.set hk hx (v := 0) (by omega) (by omega)
      have Y := readyRF ky ry
      have Z := readyRF kn rn
      have c9 := ready_c (G := G) (setN n i 2) ky
      have c10 := ready_c (G := G) (setN n i 0) kn
      rw [ry] at c9
      rw [rn] at c10
      have hOy : isort (openL (setN n i 2).notes) = (isort (openL n.notes)).filter fun a => decide (a ≠ x.number) := open_list R.ok hx (by omega) (by omega)
      have c11 := nSettle_c (G := G) (setN n i 2) x.number false hG hN hS Y.sn Y.s
      have hE : settleE (setN n i 2) x.number = 6 := by
        unfold settleE
        rw [if_neg (by simp [Y.e]), if_neg fun h => by
          rw [← isort_mem, hOy, List.mem_filter, decide_eq_true_eq] at h; exact h.2 rfl]
      have hNn : settleN (setN n i 2) x.number false = ⟨[], []⟩ := by unfold settleN; rw [if_neg (by rw [hE]; omega)]
      rw [hE, hNn] at c11
      have c12 := open3_c (G := G) (setN n i 2) Y.s Y.ok
      have hJy := openI_len (setN n i 2)
      have hfl := filter_ne_len (hO.imp fun h => Int.ne_of_lt h) (List.mem_of_getElem? hOj)
      rw [hOy] at hJy
      have c13 := nPossible_c n D M hG hN hS R.s
      have c14 := nPossible_c (setN n i 2) D M hG hN hS Y.s
      have c15 := nPossible_c (setN n i 0) D M hG hN hS Z.s
      rw [R.drawn (t := []) (by simp) hM.1 hM.2 hDm, if_pos rfl] at c13
      rw [Y.drawn (t := []) (by simp) hM.1 hM.2 hDm, if_pos rfl] at c14
      rw [Z.drawn (t := []) (by simp) hM.1 hM.2 hDm, if_pos rfl] at c15
      obtain ⟨f1, f2, f3⟩ := settled_facts R hx ho D M (L := posL n D M) rfl rfl rfl
      rw [show dedupI (isort ((truthsL (isort (openL n.notes))).map fun t => letF n t D M)) = posL n D M from rfl] at c13
      rw [show dedupI (isort ((truthsL (isort (openL (setN n i 2).notes))).map fun t => letF (setN n i 2) t D M)) = posL (setN n i 2) D M from rfl] at c14
      rw [show dedupI (isort ((truthsL (isort (openL (setN n i 0).notes))).map fun t => letF (setN n i 0) t D M)) = posL (setN n i 0) D M from rfl] at c15
      have hpl : ∀ {n' : Notes} (R' : RF n'), (posL n' D M).length ≤ 32 := fun {n'} R' => by
        have h6 := dedupI_len (isort ((truthsL (isort (openL n'.notes))).map fun t => letF n' t D M))
        rw [isortL, List.length_map, truthsL_len] at h6
        have : 2 ^ (isort (openL n'.notes)).length ≤ 2 ^ 5 := Nat.pow_le_pow_right (by omega) R'.o5
        exact Nat.le_trans h6 (by omega)
      have hp1 := hpl R
      have hp2 := hpl Y
      have hp3 := hpl Z
      have c16 := fun k => hasL_c (G := G) (posL n D M) k (by omega)
      have c17 := fun k => hasL_c (G := G) (posL (setN n i 2) D M) k (by omega)
      have c18 := fun k => hasL_c (G := G) (posL (setN n i 0) D M) k (by omega)
      generalize posL n D M = L at *
      generalize posL (setN n i 2) D M = A at *
      generalize posL (setN n i 0) D M = B at *
      have c19 := rTruths_c (G := G) n R.s R.ok (by rw [← isortL]; exact R.o5)
      have hT : ∀ t ∈ truthsL (isort (openL n.notes)), t.Sublist (isort (openL n.notes)) := fun t ht => (truths_mem hO).1 ht
      have hTl := truthsL_len (isort (openL n.notes))
      have hPl : 2 ^ (isort (openL n.notes)).length ≤ 2 ^ 5 := Nat.pow_le_pow_right (by omega) R.o5
      have hTlen : ∀ t ∈ truthsL (isort (openL n.notes)), t.length ≤ 5 := fun t ht => by have := (hT t ht).length_le; omega
      have hCN : ∀ t ∈ truthsL (isort (openL n.notes)), ∀ objs, DCall Tryz.prog G 21 [notesv n, isv t, iv M] objs (fun rr o => rr = .tup [isv (lettersK n t M), iv 0] ∧ o = objs) := fun t ht => by
        have := nLetters_c (G := G) n t M hG hN hS R.s (by have := hTlen t ht; omega)
        rwa [R.asked (hT t ht) hM.1 hM.2, if_pos rfl, letters_eq] at this
      have hfl2 : ∀ t : List Int, (t.filter fun y => decide (y ≠ x.number)).length ≤ t.length := fun t => List.length_filter_le _ _
      have hCY : ∀ t ∈ truthsL (isort (openL n.notes)), x.number ∈ t → ∀ objs, DCall Tryz.prog G 21 [notesv (setN n i 2), isv (t.filter fun y => decide (y ≠ x.number)), iv M] objs (fun rr o => rr = .tup [isv (lettersK n t M), iv 0] ∧ o = objs) := fun t ht hxt => by
        have := nLetters_c (G := G) (setN n i 2) (t.filter fun y => decide (y ≠ x.number)) M hG hN hS Y.s (by have := hTlen t ht; have := hfl2 t; omega)
        rwa [Y.asked (R.rest hx (by omega) (by omega) (hT t ht)) hM.1 hM.2, if_pos rfl, letters_eq, (settled_letters R hx ho t M).1 hxt] at this
      have hCZ : ∀ t ∈ truthsL (isort (openL n.notes)), x.number ∉ t → ∀ objs, DCall Tryz.prog G 21 [notesv (setN n i 0), isv (t.filter fun y => decide (y ≠ x.number)), iv M] objs (fun rr o => rr = .tup [isv (lettersK n t M), iv 0] ∧ o = objs) := fun t ht hxt => by
        have := nLetters_c (G := G) (setN n i 0) (t.filter fun y => decide (y ≠ x.number)) M hG hN hS Z.s (by have := hTlen t ht; have := hfl2 t; omega)
        rwa [Z.asked (R.rest hx (by omega) (by omega) (hT t ht)) hM.1 hM.2, if_pos rfl, letters_eq, (settled_letters R hx ho t M).2 hxt] at this
      have hnd : ∀ t ∈ truthsL (isort (openL n.notes)), t.Nodup := fun t ht => (hO.sublist (hT t ht)).imp fun h => Int.ne_of_lt h
      have hLk : ∀ (t : List Int), (lettersK n t M).length < 1000000 := fun t => by
        rw [lettersK_len]; have := R.n60; omega
      have hJO : ¬ (idxv (openI n.notes)).length = 0 := by omega
      have hJj : j < (idxv (openI n.notes)).length := by omega
      have hJg : (idxv (openI n.notes))[j] = (i : Int) := (List.getElem?_eq_some_iff.1 hJ).2
      have ht2 : (b : Int).tmod ((idxv (openI n.notes)).length : Int) = (j : Int) := by rw [hJl]; exact ht
      have hJi0 : ¬ ((idxv (openI n.notes)).length : Int) = 0 := by omega
      have hw1 : IntKind.i64.wrap (((idxv (openI n.notes)).length : Int) - 1) = ((idxv (openI (setN n i 2).notes)).length : Int) := by
        rw [show ((idxv (openI n.notes)).length : Int) - 1 = ((idxv (openI (setN n i 2).notes)).length : Int) by omega]; exact i64w (by omega) (by omega)
      have hTT : (truthsL (isort (openL n.notes))).length ≤ 32 := by omega
      generalize truthsL (isort (openL n.notes)) = T at *
      generalize idxv (openI n.notes) = J at *
      generalize idxv (openI (setN n i 2).notes) = Jy at *
      generalize hY : setN n i 2 = Y0 at *
      generalize hZ : setN n i 0 = Z0 at *
      have hJn : ¬ J = [] := fun e => hJO (by rw [e]; rfl)
      clear hG hN hS hT hTl hPl hO hO5 R Y Z ky kn ry rn hk ht hOj hj hY hZ hOy hE hNn hD hDm hpl hfl hz hlt hJl hJy
      have hs : True := trivial
      repeat' first | (with_reducible first | refine q01 ?_ | refine q11 ?_ | refine q12 ?_ | refine q14 ?_) | (refine CallE.pure (c1) ?_; try simp -dsimp [hw, ht2, hJn, hJO, hJi0, hJj, hJg, hJ, hil, hxe, hw1, hs]) | (refine CallE.pure (c2) ?_; try simp -dsimp [hw, ht2, hJn, hJO, hJi0, hJj, hJg, hJ, hil, hxe, hw1, hs]) | (refine CallE.pure (c3) ?_; try simp -dsimp [hw, ht2, hJn, hJO, hJi0, hJj, hJg, hJ, hil, hxe, hw1, hs]) | (refine CallE.pure (c4) ?_; try simp -dsimp [hw, ht2, hJn, hJO, hJi0, hJj, hJg, hJ, hil, hxe, hw1, hs]) | (refine CallE.pure (c5) ?_; try simp -dsimp [hw, ht2, hJn, hJO, hJi0, hJj, hJg, hJ, hil, hxe, hw1, hs]) | (refine CallE.pure (c7) ?_; try simp -dsimp [hw, ht2, hJn, hJO, hJi0, hJj, hJg, hJ, hil, hxe, hw1, hs]) | (refine CallE.pure (c8) ?_; try simp -dsimp [hw, ht2, hJn, hJO, hJi0, hJj, hJg, hJ, hil, hxe, hw1, hs]) | (refine CallE.pure (c9) ?_; try simp -dsimp [hw, ht2, hJn, hJO, hJi0, hJj, hJg, hJ, hil, hxe, hw1, hs]) | (refine CallE.pure (c10) ?_; try simp -dsimp [hw, ht2, hJn, hJO, hJi0, hJj, hJg, hJ, hil, hxe, hw1, hs]) | (refine CallE.pure (c11) ?_; try simp -dsimp [hw, ht2, hJn, hJO, hJi0, hJj, hJg, hJ, hil, hxe, hw1, hs]) | (refine CallE.pure (c12) ?_; try simp -dsimp [hw, ht2, hJn, hJO, hJi0, hJj, hJg, hJ, hil, hxe, hw1, hs]) | (refine CallE.pure (c13) ?_; try simp -dsimp [hw, ht2, hJn, hJO, hJi0, hJj, hJg, hJ, hil, hxe, hw1, hs]) | (refine CallE.pure (c14) ?_; try simp -dsimp [hw, ht2, hJn, hJO, hJi0, hJj, hJg, hJ, hil, hxe, hw1, hs]) | (refine CallE.pure (c15) ?_; try simp -dsimp [hw, ht2, hJn, hJO, hJi0, hJj, hJg, hJ, hil, hxe, hw1, hs]) | (refine DT_regionX (id := 10) (nt := 257) 13 [] [0,1,2,3,4,8,9,10,11,13,15,16,17,18,19,20,22,23,24,25,27,29,31,32,34,35,36,37,38,39,47,62,75,76,77,78,79,80,81,82,83,84,85,86,136,167,168,169,170,171,183,189,190,191,192,198,201,202,203,204,207,208,209,210,216,227,254] [0,1,2,3,4,8,9,10,11,13,15,16,17,18,19,20,22,23,24,25,27,29,31,32,34,35,36,37,38,39,47,62,136,167,168,169,170,171,183,189,190,191,192,198,201,202,203,204,207,208,209,210,216,227,254] mixed rfl (by kernel_rfl) ?_; simp -dsimp [hw, ht2, hJn, hJO, hJi0, hJj, hJg, hJ, hil, hxe, hw1, hs]) | (with_reducible refine DT_regionE [0,1,2,3,4,8,9,10,11,13,15,16,17,18,19,20,22,23,24,25,27,29,31,32,34,35,36,37,38,39,47,62,136,167,168,169,170,171,183,189,190,191,192,198,201,202,203,204,207,208,209,210,216,227,254] ?_; simp -dsimp [hw, ht2, hJn, hJO, hJi0, hJj, hJg, hJ, hil, hxe, hw1, hs]) | (refine DT_cond rfl (fun h => ?_) (fun h => ?_) <;> (try simp only [nrm] at h) <;> (try exact Bool.noConfusion h))
      all_goals try simp -dsimp [hw, ht2, hJn, hJO, hJi0, hJj, hJg, hJ, hil, hxe, hw1, hs]
      all_goals try clear hs
      refine DT_weak (Weak.drop (Nat.zero_le _) (Nat.zero_le _)) ?_
      simp -dsimp
      refine DT_loop (ι := { k : Nat // k ≤ L.length }) (fun p => ⟨257, [(4, .one (.im (.ip (encNotes n)))), (9, bv true), (10, iv M), (16, .one (.im (.ip (encNote x)))), (17, .one (.im (.ip (encNotes Y0)))), (19, .one (.im (.ip (encNotes Z0)))), (23, isv L), (24, isv A), (25, isv B), (168, isv L), (169, iv (L.length : Int)), (170, iv (p.1 : Int))], []⟩) (fun p => L.length - p.1) ⟨0, by simp⟩ (Weak.of_keep [4,9,10,16,17,19,23,24,25,168,169,170] (by simp)) ?_
      rintro ⟨k, hkL⟩
      simp only [iv, isv, bv]
      by_cases hlt : k < L.length
      · have hwk : IntKind.i64.wrap ((k : Int) + 1) = ((k + 1 : Nat) : Int) := i64w (by omega) (by omega)
        have h1 := f1 L[k] (List.getElem_mem hlt)
        generalize hy : L[k] = y at *
        have d1 := c17 y
        have d2 := c18 y
        by_cases hyA : y ∈ A
        · rw [decide_eq_true hyA] at d1
          have hs : True := trivial
          repeat' first | (with_reducible first | refine q01 ?_ | refine q04 ?_ | refine q11 ?_ | refine q12 ?_ | refine q14 ?_) | (refine CallE.pure (d1) ?_; try simp -dsimp [hlt, hwk, hy, hs]) | (with_reducible refine DT_regionE [0,1,2,3,4,8,9,10,11,13,15,16,17,18,19,20,22,23,24,25,27,29,31,32,34,35,36,37,38,39,47,62,136,167,168,169,170,171,183,189,190,191,192,198,201,202,203,204,207,208,209,210,216,227,254] ?_; simp -dsimp [hlt, hwk, hy, hs]) | (refine DT_cond rfl (fun h => ?_) (fun h => ?_) <;> (try simp only [nrm] at h) <;> (try exact Bool.noConfusion h))
          all_goals try simp -dsimp [hlt, hwk, hy, hs]
          all_goals try clear hs
          all_goals exact At.round ⟨k + 1, by omega⟩ (by simp; omega) (Weak.of_keep [4,9,10,16,17,19,23,24,25,168,169,170] (by simp))
        · rw [decide_eq_false hyA] at d1
          rw [decide_eq_true (h1.resolve_left hyA)] at d2
          have hs : True := trivial
          repeat' first | (with_reducible first | refine q01 ?_ | refine q04 ?_ | refine q11 ?_ | refine q12 ?_ | refine q14 ?_) | (refine CallE.pure (d1) ?_; try simp -dsimp [hlt, hwk, hy, hs]) | (refine CallE.pure (d2) ?_; try simp -dsimp [hlt, hwk, hy, hs]) | (with_reducible refine DT_regionE [0,1,2,3,4,8,9,10,11,13,15,16,17,18,19,20,22,23,24,25,27,29,31,32,34,35,36,37,38,39,47,62,136,167,168,169,170,171,183,189,190,191,192,198,201,202,203,204,207,208,209,210,216,227,254] ?_; simp -dsimp [hlt, hwk, hy, hs]) | (refine DT_cond rfl (fun h => ?_) (fun h => ?_) <;> (try simp only [nrm] at h) <;> (try exact Bool.noConfusion h))
          all_goals try simp -dsimp [hlt, hwk, hy, hs]
          all_goals try clear hs
          all_goals exact At.round ⟨k + 1, by omega⟩ (by simp; omega) (Weak.of_keep [4,9,10,16,17,19,23,24,25,168,169,170] (by simp))
      · obtain rfl : k = L.length := by omega
        have hs : True := trivial
        repeat' first | (with_reducible first | refine q01 ?_ | refine q03 ?_ | refine q06 ?_ | refine q11 ?_ | refine q12 ?_ | refine q16 ?_ | refine And.intro (by omega) ?_) | (with_reducible refine DT_regionE [0,1,2,3,4,8,9,10,11,13,15,16,17,18,19,20,22,23,24,25,27,29,31,32,34,35,36,37,38,39,47,62,136,167,168,169,170,171,183,189,190,191,192,198,201,202,203,204,207,208,209,210,216,227,254] ?_; simp -dsimp [hlt, hs]) | (refine DT_cond rfl (fun h => ?_) (fun h => ?_) <;> (try simp only [nrm] at h) <;> (try exact Bool.noConfusion h))
        all_goals try simp -dsimp [hlt, hs]
        all_goals try clear hs
        have f4 : ∀ k ∈ A ++ B, k ∈ L := fun k h => (List.mem_append.1 h).elim (f2 k) (f3 k)
        have hCl : (A ++ B).length ≤ 64 := by rw [List.length_append]; omega
        generalize hC : A ++ B = C at *
        refine DT_loop (ι := { k : Nat // k ≤ C.length }) (fun p => ⟨257, [(4, .one (.im (.ip (encNotes n)))), (9, bv true), (10, iv M), (16, .one (.im (.ip (encNote x)))), (17, .one (.im (.ip (encNotes Y0)))), (19, .one (.im (.ip (encNotes Z0)))), (23, isv L), (189, .one (.vec 0 2 0 C.length)), (190, iv (C.length : Int)), (191, iv (p.1 : Int))], [.vec 1 (ims (C.map encI)) 2 false]⟩) (fun p => C.length - p.1) ⟨0, by simp⟩ (Weak.of_keep [4,9,10,16,17,19,23,189,190,191] (by simp [← hC])) ?_
        rintro ⟨k, hkC⟩
        simp only [iv, isv, bv]
        by_cases hlt : k < C.length
        · have hwk : IntKind.i64.wrap ((k : Int) + 1) = ((k + 1 : Nat) : Int) := i64w (by omega) (by omega)
          have h1 := f4 C[k] (List.getElem_mem hlt)
          have hyk : C[k]? = some C[k] := List.getElem?_eq_getElem hlt
          generalize hy : C[k] = y at *
          have d1 := c16 y
          rw [decide_eq_true h1] at d1
          have hs : True := trivial
          repeat' first | (with_reducible first | refine q01 ?_ | refine q04 ?_ | refine q11 ?_ | refine q12 ?_ | refine q14 ?_) | (refine CallE.pure (d1) ?_; try simp -dsimp [hlt, hwk, hy, hyk, hs]) | (with_reducible refine DT_regionE [0,1,2,3,4,8,9,10,11,13,15,16,17,18,19,20,22,23,24,25,27,29,31,32,34,35,36,37,38,39,47,62,136,167,168,169,170,171,183,189,190,191,192,198,201,202,203,204,207,208,209,210,216,227,254] ?_; simp -dsimp [hlt, hwk, hy, hyk, hs]) | (refine DT_cond rfl (fun h => ?_) (fun h => ?_) <;> (try simp only [nrm] at h) <;> (try exact Bool.noConfusion h))
          all_goals try simp -dsimp [hlt, hwk, hy, hyk, hs]
          all_goals try clear hs
          all_goals exact At.round ⟨k + 1, by omega⟩ (by simp; omega) (Weak.of_keep [4,9,10,16,17,19,23,189,190,191] (by simp))
        · obtain rfl : k = C.length := by omega
          have hs : True := trivial
          repeat' first | (with_reducible first | refine q01 ?_ | refine q03 ?_ | refine q06 ?_ | refine q11 ?_ | refine q12 ?_ | refine q16 ?_) | (refine CallE.pure (c19) ?_; try simp -dsimp [hlt, hs]) | (with_reducible refine DT_regionE [0,1,2,3,4,8,9,10,11,13,15,16,17,18,19,20,22,23,24,25,27,29,31,32,34,35,36,37,38,39,47,62,136,167,168,169,170,171,183,189,190,191,192,198,201,202,203,204,207,208,209,210,216,227,254] ?_; simp -dsimp [hlt, hs]) | (refine DT_cond rfl (fun h => ?_) (fun h => ?_) <;> (try simp only [nrm] at h) <;> (try exact Bool.noConfusion h))
          all_goals try simp -dsimp [hlt, hs]
          all_goals try clear hs
          refine DT_weak (Weak.drop (Nat.zero_le _) (Nat.zero_le _)) ?_
          simp -dsimp
          refine DT_loop (ι := { k : Nat // k ≤ T.length }) (fun p => ⟨257, [(4, .one (.im (.ip (encNotes n)))), (9, bv true), (10, iv M), (16, .one (.im (.ip (encNote x)))), (17, .one (.im (.ip (encNotes Y0)))), (19, .one (.im (.ip (encNotes Z0)))), (201, lsv T), (202, iv (T.length : Int)), (203, iv (p.1 : Int))], []⟩) (fun p => T.length - p.1) ⟨0, by simp⟩ (Weak.of_keep [4,9,10,16,17,19,201,202,203] (by simp)) ?_
          rintro ⟨k, hkT⟩
          simp only [iv, isv, bv, lsv]
          by_cases hlt : k < T.length
          · have hwk : IntKind.i64.wrap ((k : Int) + 1) = ((k + 1 : Nat) : Int) := i64w (by omega) (by omega)
            have htm : T[k] ∈ T := List.getElem_mem hlt
            generalize hte : T[k] = t at *
            have h5 := hTlen t htm
            have hs : True := trivial
            repeat' first | (with_reducible first | refine q01 ?_ | refine q11 ?_ | refine q12 ?_ | refine q14 ?_) | (with_reducible refine DT_regionE [0,1,2,3,4,8,9,10,11,13,15,16,17,18,19,20,22,23,24,25,27,29,31,32,34,35,36,37,38,39,47,62,136,167,168,169,170,171,183,189,190,191,192,198,201,202,203,204,207,208,209,210,216,227,254] ?_; simp -dsimp [hlt, hwk, hte, hs]) | (refine DT_cond rfl (fun h => ?_) (fun h => ?_) <;> (try simp only [nrm] at h) <;> (try exact Bool.noConfusion h))
            all_goals try simp -dsimp [hlt, hwk, hte, hs]
            all_goals try clear hs
            refine DT_loop (ι := { p : Nat × Nat × Bool // p.1 ≤ t.length }) (fun p => ⟨257, [(4, .one (.im (.ip (encNotes n)))), (9, bv true), (10, iv M), (16, .one (.im (.ip (encNote x)))), (17, .one (.im (.ip (encNotes Y0)))), (19, .one (.im (.ip (encNotes Z0)))), (31, isv t), (32, .one (.vec 0 p.1.2.1 0 ((t.take p.1.1).filter fun y => decide (y ≠ x.number)).length)), (201, lsv T), (202, iv (T.length : Int)), (203, iv (k : Int)), (207, isv t), (208, iv (t.length : Int)), (209, iv (p.1.1 : Int))], [.vec 1 (ims (((t.take p.1.1).filter fun y => decide (y ≠ x.number)).map encI)) p.1.2.1 p.1.2.2]⟩) (fun p => t.length - p.1.1) ⟨(0, 0, true), by simp⟩ (Weak.of_keep [4,9,10,16,17,19,31,32,201,202,203,207,208,209] (by simp)) ?_
            rintro ⟨⟨q, g, nl⟩, hqt⟩
            simp only at hqt
            simp only [iv, isv, bv, lsv]
            by_cases hlq : q < t.length
            · have hwq : IntKind.i64.wrap ((q : Int) + 1) = ((q + 1 : Nat) : Int) := i64w (by omega) (by omega)
              have htk : t.take (q + 1) = t.take q ++ [t[q]] := List.take_succ_eq_append_getElem hlq
              have hfl := List.length_filter_le (fun y => decide (y ≠ x.number)) (t.take q)
              rw [List.length_take] at hfl
              generalize hy : t[q] = y at *
              by_cases hyx : y = x.number
              · have hf : (t.take (q + 1)).filter (fun y => decide (y ≠ x.number)) = (t.take q).filter fun y => decide (y ≠ x.number) := by rw [htk, List.filter_append]; simp [hyx]
                generalize hfe : (t.take q).filter (fun y => decide (y ≠ x.number)) = W at *
                have hs : True := trivial
                repeat' first | (with_reducible first | refine q01 ?_ | refine q04 ?_ | refine q11 ?_ | refine q12 ?_ | refine q14 ?_) | (with_reducible refine DT_regionE [0,1,2,3,4,8,9,10,11,13,15,16,17,18,19,20,22,23,24,25,27,29,31,32,34,35,36,37,38,39,47,62,136,167,168,169,170,171,183,189,190,191,192,198,201,202,203,204,207,208,209,210,216,227,254] ?_; simp -dsimp [hlq, hwq, hy, hyx, hs]) | (refine DT_cond rfl (fun h => ?_) (fun h => ?_) <;> (try simp only [nrm] at h) <;> (try exact Bool.noConfusion h))
                all_goals try simp -dsimp [hlq, hwq, hy, hyx, hs]
                all_goals try clear hs
                all_goals exact At.round ⟨(q + 1, g, nl), by omega⟩ (by simp only; omega) (Weak.of_keep [4,9,10,16,17,19,31,32,201,202,203,207,208,209] (by simp only [hf]; simp))
              · have hf : (t.take (q + 1)).filter (fun y => decide (y ≠ x.number)) = (t.take q).filter (fun y => decide (y ≠ x.number)) ++ [y] := by rw [htk, List.filter_append]; simp [hyx]
                generalize hfe : (t.take q).filter (fun y => decide (y ≠ x.number)) = W at *
                have hs : True := trivial
                repeat' first | (with_reducible first | refine q01 ?_ | refine q04 ?_ | refine q11 ?_ | refine q12 ?_ | refine q14 ?_ | refine And.intro (by omega) ?_) | (with_reducible refine DT_regionE [0,1,2,3,4,8,9,10,11,13,15,16,17,18,19,20,22,23,24,25,27,29,31,32,34,35,36,37,38,39,47,62,136,167,168,169,170,171,183,189,190,191,192,198,201,202,203,204,207,208,209,210,216,227,254] ?_; simp -dsimp [hlq, hwq, hy, hyx, hs]) | (refine DT_cond rfl (fun h => ?_) (fun h => ?_) <;> (try simp only [nrm] at h) <;> (try exact Bool.noConfusion h))
                all_goals try simp -dsimp [hlq, hwq, hy, hyx, hs]
                all_goals try clear hs
                all_goals exact At.round ⟨(q + 1, g + 1, false), by omega⟩ (by simp only; omega) (Weak.of_drop [4,9,10,16,17,19,31,32,201,202,203,207,208,209] 1 (by simp) (by simp) (by simp only [hf]; simp))
            · obtain rfl : q = t.length := by omega
              rw [List.take_length]
              have d0 := hCN t htm
              have d3 := sameI3_c (G := G) (lettersK n t M) (lettersK n t M) (hLk t) (hLk t)
              rw [decide_eq_true rfl] at d3
              by_cases hxt : x.number ∈ t
              · have d1 := hCY t htm hxt
                have hWl := filter_ne_len (hnd t htm) hxt
                generalize hWe : (t.filter fun y => decide (y ≠ x.number)) = W at *
                generalize lettersK n t M = X at *
                have hWi : (W.length : Int) < t.length := by omega
                refine DT_weak (Weak.drop (Nat.zero_le _) (Nat.zero_le _)) ?_
                simp -dsimp
                have hs : True := trivial
                repeat' first | (with_reducible first | refine q01 ?_ | refine q03 ?_ | refine q04 ?_ | refine q06 ?_ | refine q11 ?_ | refine q14 ?_ | refine q16 ?_) | (refine CallE.pure (d0) ?_; try simp -dsimp [hlq, hWi, hwk, hs]) | (refine CallE.pure (d1) ?_; try simp -dsimp [hlq, hWi, hwk, hs]) | (refine CallE.pure (d3) ?_; try simp -dsimp [hlq, hWi, hwk, hs]) | (with_reducible refine DT_regionE [0,1,2,3,4,8,9,10,11,13,15,16,17,18,19,20,22,23,24,25,27,29,31,32,34,35,36,37,38,39,47,62,136,167,168,169,170,171,183,189,190,191,192,198,201,202,203,204,207,208,209,210,216,227,254] ?_; simp -dsimp [hlq, hWi, hwk, hs]) | (refine DT_cond rfl (fun h => ?_) (fun h => ?_) <;> (try simp only [nrm] at h) <;> (try exact Bool.noConfusion h))
                all_goals try simp -dsimp [hlq, hWi, hwk, hs]
                all_goals try clear hs
                all_goals exact At.round ⟨k + 1, by omega⟩ (by simp only; omega) (Weak.of_drop [4,9,10,16,17,19,201,202,203] 0 (by simp) (by simp) (by simp))
              · have d1 := hCZ t htm hxt
                have hWl : (t.filter fun y => decide (y ≠ x.number)) = t := List.filter_eq_self.2 fun y hy => decide_eq_true (by rintro rfl; exact hxt hy)
                generalize hWe : (t.filter fun y => decide (y ≠ x.number)) = W at *
                subst hWl
                generalize lettersK n W M = X at *
                refine DT_weak (Weak.drop (Nat.zero_le _) (Nat.zero_le _)) ?_
                simp -dsimp
                have hs : True := trivial
                repeat' first | (with_reducible first | refine q01 ?_ | refine q03 ?_ | refine q04 ?_ | refine q06 ?_ | refine q11 ?_ | refine q14 ?_ | refine q16 ?_) | (refine CallE.pure (d0) ?_; try simp -dsimp [hlq, hwk, hs]) | (refine CallE.pure (d1) ?_; try simp -dsimp [hlq, hwk, hs]) | (refine CallE.pure (d3) ?_; try simp -dsimp [hlq, hwk, hs]) | (with_reducible refine DT_regionE [0,1,2,3,4,8,9,10,11,13,15,16,17,18,19,20,22,23,24,25,27,29,31,32,34,35,36,37,38,39,47,62,136,167,168,169,170,171,183,189,190,191,192,198,201,202,203,204,207,208,209,210,216,227,254] ?_; simp -dsimp [hlq, hwk, hs]) | (refine DT_cond rfl (fun h => ?_) (fun h => ?_) <;> (try simp only [nrm] at h) <;> (try exact Bool.noConfusion h))
                all_goals try simp -dsimp [hlq, hwk, hs]
                all_goals try clear hs
                all_goals exact At.round ⟨k + 1, by omega⟩ (by simp only; omega) (Weak.of_drop [4,9,10,16,17,19,201,202,203] 0 (by simp) (by simp) (by simp))
          · obtain rfl : k = T.length := by omega
            have hs : True := trivial
            repeat' first | (with_reducible first | refine q01 ?_ | refine q03 ?_ | refine q06 ?_ | refine q11 ?_ | refine q16 ?_ | refine q17 ?_) | (with_reducible refine At.fn_ret (by simp -dsimp [hlt, hs]; exact rfl) ?_) | (with_reducible refine DT_regionE [0,1,2,3,4,8,9,10,11,13,15,16,17,18,19,20,22,23,24,25,27,29,31,32,34,35,36,37,38,39,47,62,136,167,168,169,170,171,183,189,190,191,192,198,201,202,203,204,207,208,209,210,216,227,254] ?_; simp -dsimp [hlt, hs]) | (refine DT_cond rfl (fun h => ?_) (fun h => ?_) <;> (try simp only [nrm] at h) <;> (try exact Bool.noConfusion h))
            all_goals try simp -dsimp [hlt, hs]
            all_goals try clear hs
end Go.Proofs
