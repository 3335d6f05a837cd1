/- Part 31 of the proofs: laws and walks that hold without conditions beyond those that each theorem names. -/
import Derived.Test.YtmfanojaldiejaaGreatDoorA23
import Derived.Test.YtmfanojaldiejaaGreatDoorA24
import Derived.Test.YtmfanojaldiejaaGreatDoorA26
import Derived.Test.YtmfanojaldiejaaGreatDoorA27
set_option linter.all false
set_option linter.deprecated false
namespace Go.Proofs
open Go Go.Ab
theorem lettersK_ext {n n' : Notes} {s s' : List Int} {m : Int} (hr : n'.reg = n.reg) (h : ∀ d, letF n' s' d m = letF n s d m) : lettersK n' s' m = lettersK n s m := by
  unfold lettersK
  rw [hr]
  exact List.map_congr_left fun d _ => h d
theorem selN_mem' {N : List Int} {s : Nat} {x : Int} : x ∈ selN N s N.length ↔ ∃ i : Nat, i < N.length ∧ s.testBit i = true ∧ N[i]? = some x := selN_mem (Nat.le_refl _)
theorem bits5 : ∀ s < 32, ∀ i < 5, ∀ j < 5, (s.testBit i = false → (s + 2 ^ i).testBit j = (s.testBit j || decide (j = i))) := by decide +kernel
theorem letsL_get {n : Notes} {m : Int} {O : List Int} {k P : Nat} (h : k < P) : (letsL n m O P)[k]? = some (lettersK n (selN O k O.length) m) := letsL_at h
theorem mat_settle {n : Notes} (hok : allOk n) (h5 : (openL n.notes).length ≤ 5) {i j : Nat} {x : Note} (hx : n.notes[i]? = some x) (ho : x.signed = 1) (hj : (isort (openL n.notes))[j]? = some x.number) (m : Int) :
    (matM (difB (letsL n m (isort (openL n.notes)) (2 ^ (isort (openL n.notes)).length))) (isort (openL n.notes)).length (2 ^ (isort (openL n.notes)).length)).testBit j = true ↔
      ∃ t : List Int, t.Sublist (isort (openL (setSg n.notes i 0))) ∧ lettersK ⟨n.reg, setSg n.notes i 2⟩ t m ≠ lettersK ⟨n.reg, setSg n.notes i 0⟩ t m := by
  have hOs := isort_strict (openL_nodup hok)
  have hO5 : (isort (openL n.notes)).length ≤ 5 := by rw [isort_len]; exact h5
  rw [open_list hok hx (v := 0) (by omega) (by omega)]
  generalize isort (openL n.notes) = O at *
  have hjl := lt_of_getElem? hj
  rw [mat_eq hO5 hjl]
  have hP : 2 ^ O.length ≤ 2 ^ 5 := Nat.pow_le_pow_right (by omega) hO5
  have hinj : ∀ k, O[k]? = some x.number → k = j := fun k hk => by
    have hkl := lt_of_getElem? hk
    rw [List.pairwise_iff_getElem] at hOs
    have e1 := (List.getElem?_eq_some_iff.1 hj).2
    have e2 := (List.getElem?_eq_some_iff.1 hk).2
    rcases Nat.lt_trichotomy k j with h | h | h
    · have := hOs k j hkl hjl h; omega
    · exact h
    · have := hOs j k hjl hkl h; omega
  -- a set without it, and the set with it
  have step : ∀ s, s < 2 ^ O.length → s.testBit j = false → s + 2 ^ j < 2 ^ O.length ∧ x.number ∉ selN O s O.length ∧ ∀ y, y ∈ selN O (s + 2 ^ j) O.length ↔ y ∈ selN O s O.length ∨ y = x.number := fun s hs hb => by
    refine ⟨?_, fun h => ?_, fun y => ?_⟩
    · rw [← (xor_all s (by omega) j (by omega)).1 hb]
      exact Nat.xor_lt_two_pow hs (Nat.pow_lt_pow_right (by omega) hjl)
    · obtain ⟨k, h1, h2, h3⟩ := selN_mem'.1 h
      rw [hinj k h3, hb] at h2; cases h2
    · rw [selN_mem', selN_mem']
      constructor
      · rintro ⟨k, h1, h2, h3⟩
        rw [bits5 s (by omega) j (by omega) k (by omega) hb, Bool.or_eq_true, decide_eq_true_eq] at h2
        rcases h2 with h2 | rfl
        · exact .inl ⟨k, h1, h2, h3⟩
        · rw [hj] at h3; exact .inr (Option.some.inj h3).symm
      · rintro (⟨k, h1, h2, h3⟩ | rfl)
        · exact ⟨k, h1, by rw [bits5 s (by omega) j (by omega) k (by omega) hb, h2]; rfl, h3⟩
        · exact ⟨j, hjl, by rw [bits5 s (by omega) j (by omega) j (by omega) hb]; simp, hj⟩
  have lets : ∀ s, s < 2 ^ O.length → s.testBit j = false → lettersK ⟨n.reg, setSg n.notes i 2⟩ (selN O s O.length) m = lettersK n (selN O (s + 2 ^ j) O.length) m ∧ lettersK ⟨n.reg, setSg n.notes i 0⟩ (selN O s O.length) m = lettersK n (selN O s O.length) m := fun s hs hb => by
    obtain ⟨_, h2, h3⟩ := step s hs hb
    exact ⟨lettersK_ext rfl fun d => letF_yes hok hx h3 d m, lettersK_ext rfl fun d => letF_no hx ho h2 d m⟩
  rw [matR, List.any_eq_true]
  constructor
  · rintro ⟨s, hs, hd⟩
    rw [List.mem_range] at hs
    simp only [Bool.and_eq_true, Bool.not_eq_true', decide_eq_true_eq] at hd
    obtain ⟨hb, hd⟩ := hd
    obtain ⟨h1, h2, h3⟩ := step s hs hb
    obtain ⟨e1, e2⟩ := lets s hs hb
    refine ⟨selN O s O.length, ?_, fun e => hd ?_⟩
    · have h4 : (selN O s O.length).Sublist O := by
        have := selN_sub O s O.length (Nat.le_refl _)
        rwa [List.take_length] at this
      have h5 := h4.filter fun a => decide (a ≠ x.number)
      rwa [List.filter_eq_self.2 fun a h => by simp; rintro rfl; exact h2 h] at h5
    · rw [letsL_get hs, letsL_get h1, ← e1, ← e2, e]
  · rintro ⟨t, ht, hne⟩
    have hts : t.Sublist O := ht.trans List.filter_sublist
    have hxt : x.number ∉ t := fun h => by
      have := ht.subset h
      rw [List.mem_filter] at this
      simpa using this.2
    have := (truths_mem hOs).2 hts
    unfold truthsL trTo at this
    obtain ⟨s, hs, rfl⟩ := List.mem_map.1 this
    rw [List.mem_range] at hs
    have hb : s.testBit j = false := by
      cases h : s.testBit j
      · rfl
      · exact absurd (selN_mem'.2 ⟨j, hjl, h, hj⟩) hxt
    obtain ⟨h1, _, _⟩ := step s hs hb
    obtain ⟨e1, e2⟩ := lets s hs hb
    refine ⟨s, by simpa using hs, ?_⟩
    simp only [Bool.and_eq_true, Bool.not_eq_true', decide_eq_true_eq]
    refine ⟨hb, fun e => hne ?_⟩
    rw [letsL_get hs, letsL_get h1] at e
    rw [e1, e2]; exact (Option.some.inj e).symm
theorem sureTo_congr {n n' : Notes} {m : Int} {O : List Int} : ∀ k, (∀ t ∈ trTo O k, lettersK n t m = lettersK n' t m) → lettersK n [] m = lettersK n' [] m → sureTo n m O k = sureTo n' m O k
  | 0, _, h => h
  | k + 1, h, h0 => by
    rw [sureTo_succ, sureTo_succ, sureTo_congr k (fun t ht => h t (by rw [trTo_succ]; simp [ht])) h0, h _ (by rw [trTo_succ]; simp)]
end Go.Proofs
namespace Go.Proofs
open Go Go.Ab
set_option linter.unusedSimpArgs false
variable {G : Nat → Option (List IC)}
def setN (n : Notes) (i : Nat) (v : Int) : Notes := ⟨n.reg, setSg n.notes i v⟩
theorem setSg_mem {l : List Note} {i : Nat} {v : Int} {y : Note} (h : y ∈ setSg l i v) : ∃ x ∈ l, y = x ∨ y = sgn x v := by
  obtain ⟨j, hj⟩ := List.mem_iff_getElem?.1 h
  obtain ⟨x, h1, h2⟩ := setSg_at hj
  refine ⟨x, List.mem_of_getElem? h1, ?_⟩
  split at h2
  · exact .inr h2
  · exact .inl h2
theorem NKind.set {n : Notes} (hk : NKind n) {i : Nat} {v : Int} (hv : 0 ≤ v ∧ v ≤ 2) : NKind (setN n i v) := by
  refine ⟨hk.1, fun y hy => ?_⟩
  obtain ⟨x, hx, h⟩ := setSg_mem hy
  have := hk.2 x hx
  rcases h with rfl | rfl
  · exact this
  · exact ⟨this.1, this.2.1, by simp [sgn]; omega, by simp [sgn]; omega⟩
theorem RF.set {n : Notes} (R : RF n) (hk : NKind n) {i : Nat} {x : Note} (hx : n.notes[i]? = some x) {v : Int} (hv : 0 ≤ v ∧ v ≤ 2) (h1 : v ≠ 1) : readyB (setN n i v) = true := by
  have hl : (setSg n.notes i v).length = n.notes.length := setSg_len _ _ _
  have h0 : smallNB (setN n i v) = true := by
    unfold smallNB
    rw [Bool.and_eq_true]
    exact ⟨decide_eq_true R.sn.1, decide_eq_true (by show (setSg n.notes i v).length ≤ 16; rw [hl]; exact R.sn.2)⟩
  have h2 : notesE (setN n i v) = 0 := by
    unfold notesE
    rw [if_neg (by simp [setN, R.c]), if_pos]
    refine notesB_iff.2 ⟨by show (setSg n.notes i v).length ≤ 12; rw [hl]; exact R.l, allOk_set R.ok hv i, ?_⟩
    have := open_list R.ok hx hv h1
    rw [← isortL, show (setN n i v).notes = setSg n.notes i v from rfl, this]
    exact Nat.le_trans (List.length_filter_le _ _) R.o5
  simp [readyB, h0, h2]
theorem RF.openAt {n : Notes} (_R : RF n) {j : Nat} (hj : j < (isort (openL n.notes)).length) : ∃ (i : Nat) (x : Note), (idxv (openI n.notes))[j]? = some (i : Int) ∧ n.notes[i]? = some x ∧ (isort (openL n.notes))[j]? = some x.number ∧ x.signed = 1 := by
  have hnu := openI_nums (n := n)
  have hOl : (isort (openL n.notes)).length = (openI n.notes).length := by rw [← hnu, List.length_map]
  have hi : j < (openI n.notes).length := by omega
  obtain ⟨h1, h2⟩ := (openI_to n.notes).lt _ (List.getElem_mem hi)
  refine ⟨(openI n.notes)[j], n.notes[(openI n.notes)[j]], by simp [idxv, hi], List.getElem?_eq_getElem h1, ?_, ?_⟩
  · rw [← hnu, List.getElem?_map, List.getElem?_eq_getElem hi]
    simp [numAt, h1]
  · simpa [opAt, List.getElem?_eq_getElem h1] using h2
theorem RF.settle {n : Notes} (R : RF n) {i : Nat} {x : Note} (hx : n.notes[i]? = some x) (ho : x.signed = 1) (b : Bool) : settleE n x.number = 0 ∧ settleN n x.number b = setN n i (if b = true then 2 else 0) := by
  have hE : settleE n x.number = 0 := by unfold settleE; rw [if_neg (by simp [R.e]), if_pos (open_mem.2 ⟨i, x, hx, rfl, ho⟩)]
  refine ⟨hE, ?_⟩
  unfold settleN settleL setN
  rw [if_pos hE, settleI_at R.ok hx]
end Go.Proofs
namespace Go.Proofs
open Go Go.Ab
theorem frc_step {n : Notes} {s w : List Int} (k : Nat) (h9 : k < 999) (hk : ¬ ((k : Int) + 1) ∈ marksP n.notes) : frcL s w ((k : Int) + 1) n.notes = frcL s w k n.notes := by
  refine frcL_same n.notes fun x hx => ?_
  have h1 : (k : Int) + 1 ≠ x.frm := fun e => hk (marks_mem.2 ⟨.inr ⟨x, hx, .inl e⟩, by omega⟩)
  have h2 : (k : Int) + 1 ≠ x.to + 1 := fun e => hk (marks_mem.2 ⟨.inr ⟨x, hx, .inr e⟩, by omega⟩)
  unfold frcB
  have e1 : decide (x.frm ≤ (k : Int) + 1) = decide (x.frm ≤ (k : Int)) := by rw [decide_eq_decide]; omega
  have e2 : decide ((k : Int) + 1 ≤ x.to) = decide ((k : Int) ≤ x.to) := by rw [decide_eq_decide]; omega
  rw [e1, e2]
theorem frc_mark {n : Notes} (s w : List Int) : ∀ k : Nat, k < 999 → ∃ m ∈ marksP n.notes, frcL s w ((k : Int) + 1) n.notes = frcL s w m n.notes
  | 0, _ => ⟨1, marks_mem.2 ⟨.inl rfl, by omega⟩, rfl⟩
  | k + 1, h => by
    by_cases hm : ((k + 1 : Nat) : Int) + 1 ∈ marksP n.notes
    · exact ⟨_, hm, rfl⟩
    · obtain ⟨m, h1, h2⟩ := frc_mark (n := n) s w k (by omega)
      refine ⟨m, h1, ?_⟩
      rw [frc_step (k + 1) h hm]
      exact h2
theorem both_any {n : Notes} {s w M : List Int} (h1 : ∀ m ∈ marksP n.notes, m ∈ M) (h2 : ∀ m ∈ M, 1 ≤ m ∧ m ≤ 999) (a b : Nat) : bothB n s w a b = M.any fun m => frcAt n s w m a && frcAt n s w m b := by
  unfold bothB
  rw [Bool.eq_iff_iff, List.any_eq_true, List.any_eq_true]
  constructor
  · rintro ⟨m, hm, h⟩; exact ⟨m, h1 m hm, h⟩
  · rintro ⟨m, hm, h⟩
    obtain ⟨h3, h4⟩ := h2 m hm
    obtain ⟨m', h5, h6⟩ := frc_mark (n := n) s w (m - 1).toNat (by omega)
    rw [show ((m - 1).toNat : Int) + 1 = m by omega] at h6
    refine ⟨m', h5, ?_⟩
    unfold frcAt at h ⊢
    rw [← h6]; exact h
def drawL (l : List Note) (w : List Int) : List Note := l.map fun x => if x.number ∈ w then sgn x 0 else x
theorem strip_draw (l : List Note) (w : List Int) : strip (drawL l w) = strip l := by
  simp only [strip, drawL, List.map_map]
  refine List.map_congr_left fun x _ => ?_
  simp only [Function.comp_apply]
  split <;> rfl
theorem drawL_at {l : List Note} {w : List Int} {j : Nat} {y : Note} (h : (drawL l w)[j]? = some y) : ∃ x, l[j]? = some x ∧ y = if x.number ∈ w then sgn x 0 else x := by
  simp only [drawL, List.getElem?_map, Option.map_eq_some_iff] at h
  obtain ⟨x, h1, h2⟩ := h
  exact ⟨x, h1, h2.symm⟩
theorem frc_draw (n : Notes) (s w : List Int) (m : Int) : frcL (s.filter fun a => decide (a ∉ w)) [] m (drawL n.notes w) = frcL s w m n.notes := by
  refine frcL_ext (strip_draw _ _) fun j y x hy hx => ?_
  obtain ⟨z, h1, h2⟩ := drawL_at hy
  rw [hx] at h1; cases h1
  by_cases hw : x.number ∈ w
  · rw [if_pos hw] at h2
    subst h2
    simp [frcB, sgn, hw]
  · rw [if_neg hw] at h2
    subst h2
    simp [frcB, hw]
theorem rawM_strip (l : List Note) : rawM (strip l) = rawM l := by
  simp only [rawM, strip, List.flatMap_map]; rfl
theorem marks_draw (l : List Note) (w : List Int) : marksP (drawL l w) = marksP l := by
  unfold marksP; rw [← rawM_strip, strip_draw, rawM_strip]
theorem numAt_strip (l : List Note) (i : Nat) : numAt (strip l) i = numAt l i := by
  unfold numAt; rw [strip_at]; cases l[i]? <;> rfl
theorem clOk_draw (n : Notes) (s w : List Int) (a b : Nat) : clOk ⟨n.reg, drawL n.notes w⟩ (s.filter fun a => decide (a ∉ w)) [] a b = clOk n s w a b := by
  have hb : bothB ⟨n.reg, drawL n.notes w⟩ (s.filter fun a => decide (a ∉ w)) [] a b = bothB n s w a b := by
    unfold bothB frcAt
    simp only [marks_draw, frc_draw]
  unfold clOk
  rw [hb]
  have e : ∀ j : Nat, (drawL n.notes w)[j]? = (n.notes[j]?).map fun x => if x.number ∈ w then sgn x 0 else x := fun j => by simp only [drawL, List.getElem?_map]
  dsimp only
  simp only [e]
  cases n.notes[a]? with
  | none => rfl
  | some x => cases n.notes[b]? with
    | none => rfl
    | some y =>
      have h1 : ∀ z : Note, (if z.number ∈ w then sgn z 0 else z).drawing = z.drawing := fun z => by split <;> rfl
      have h2 : ∀ z : Note, (if z.number ∈ w then sgn z 0 else z).letter = z.letter := fun z => by split <;> rfl
      simp only [Option.map_some, h1, h2]
theorem clash_draw (n : Notes) (s w : List Int) : clashL ⟨n.reg, drawL n.notes w⟩ (s.filter fun a => decide (a ∉ w)) [] = clashL n s w := by
  have hl : (drawL n.notes w).length = n.notes.length := by simp [drawL]
  have hn : ∀ j, numAt (drawL n.notes w) j = numAt n.notes j := fun j => by rw [← numAt_strip, strip_draw, numAt_strip]
  unfold clashL clTo clRow
  simp only [hl, clOk_draw, hn]
end Go.Proofs
namespace Go.Proofs
open Go Go.Ab
theorem frcL_none {s w : List Int} {m : Int} : ∀ (l : List Note), (∀ x ∈ l, x.number ∈ w) → frcL s w m l = List.replicate l.length false
  | [], _ => rfl
  | x :: l, h => by
    have ih := frcL_none (s := s) (m := m) l fun y hy => h y (by simp [hy])
    have hx := h x (by simp)
    simp only [frcL, ih, List.length_cons, List.replicate_succ]
    simp [frcB, hx]
theorem clN_all {n : Notes} {s w : List Int} (h : ∀ x ∈ n.notes, x.number ∈ w) : clN n s w = true := by
  have hf : ∀ m a, frcAt n s w m a = false := fun m a => by
    unfold frcAt
    rw [frcL_none _ h, List.getElem?_replicate]
    split <;> rfl
  have hb : ∀ a b, clOk n s w a b = false := fun a b => by
    have : bothB n s w a b = false := by unfold bothB; simp [hf]
    simp [clOk, this]
  have e : clashL n s w = [] := by
    unfold clashL clTo
    rw [List.flatMap_eq_nil_iff]
    intro a _
    unfold clRow
    simp [hb]
  unfold clN; rw [e]; rfl
theorem wS_spec {n : Notes} (hok : allOk n) (s : List Int) : (wS n s).Sublist (isort (n.notes.map fun x => x.number)) ∧ clN n s (wS n s) = true ∧ ∀ z : List Int, z.Sublist (isort (n.notes.map fun x => x.number)) → clN n s z = true → befL z (wS n s) = false := by
  have hA := isort_strict (nums_nodup hok)
  have hl : (isort (n.notes.map fun x => x.number)).length = n.notes.length := by rw [isort_len, List.length_map]
  cases h : sizesL (clN n s) (isort (n.notes.map fun x => x.number)) (n.notes.length + 1) with
  | none =>
    have h1 := sizesL_none _ h (isort (n.notes.map fun x => x.number)) (List.Sublist.refl _) (by omega)
    rw [clN_all fun x hx => isort_mem.2 (List.mem_map.2 ⟨x, hx, rfl⟩)] at h1
    cases h1
  | some x =>
    have h1 := sizesL_some hA _ _ h
    have e : wS n s = x := by unfold wS; rw [h]; rfl
    rw [e]; exact h1
theorem wS_rising {n : Notes} (hok : allOk n) (s : List Int) : (wS n s).Pairwise (· < ·) := (isort_strict (nums_nodup hok)).sublist (wS_spec hok s).1
theorem wS_nil {n : Notes} (hok : allOk n) (s : List Int) : wS n s = [] ↔ (clashL n s []).length = 0 := by
  obtain ⟨_, h2, h3⟩ := wS_spec hok s
  constructor
  · intro h
    rw [h] at h2
    simpa [clN] using h2
  · intro h
    have h4 := h3 [] (by simp) (by simp [clN, h])
    unfold befL at h4
    split at h4
    · rename_i e
      exact List.eq_nil_of_length_eq_zero e.symm
    · rw [decide_eq_false_iff_not] at h4
      exact List.eq_nil_of_length_eq_zero (by rw [List.length_nil] at h4; omega)
end Go.Proofs
namespace Go.Proofs
open Go Go.Ab
theorem snoc_get {α : Type} {D : List α} {a y : α} {i : Nat} (h : (D ++ [a])[i]? = some y) : (i < D.length ∧ D[i]? = some y) ∨ (i = D.length ∧ y = a) := getElem?_snoc h
structure SegOk (f : Int → Int) (k : Int) (L : List Str) : Prop where
  last : ∃ y, L.getLast? = some y ∧ y.to = k
  first : ∀ y, L[0]? = some y → y.frm = 1
  each : ∀ (i : Nat) (y : Str), L[i]? = some y → 1 ≤ y.frm ∧ y.frm ≤ y.to ∧ y.to ≤ k ∧ ∀ m, y.frm ≤ m → m ≤ y.to → f m = y.letter
  next : ∀ (i : Nat) (y z : Str), L[i]? = some y → L[i + 1]? = some z → y.to + 1 = z.frm ∧ y.letter ≠ z.letter
theorem strR_ok (f : Int → Int) : ∀ k : Nat, SegOk f ((k : Int) + 1) (strR f (k + 1))
  | 0 => by
    have e : strR f 1 = [⟨1, 1, f 1⟩] := rfl
    rw [e]
    refine ⟨⟨_, rfl, rfl⟩, fun y h => by cases h; rfl, fun i y h => ?_, fun i y z h1 h2 => ?_⟩
    · cases i with
      | zero => cases h; exact ⟨Int.le_refl _, Int.le_refl _, by simp, fun m h1 h2 => by rw [show m = 1 by simp at h1 h2; omega]⟩
      | succ i => simp at h
    · simp at h2
  | k + 1 => by
    obtain ⟨⟨y, hy, hyt⟩, hf, he, hn⟩ := strR_ok f k
    have e : strR f (k + 1 + 1) = stepR (strR f (k + 1)) (((k + 1 : Nat) : Int) + 1) (f (((k + 1 : Nat) : Int) + 1)) := rfl
    rw [e]
    generalize strR f (k + 1) = L at *
    have hL : L = L.dropLast ++ [y] := by
      rw [List.getLast?_eq_some_iff] at hy
      obtain ⟨D, rfl⟩ := hy
      simp
    generalize L.dropLast = D at hL
    subst hL
    have hlast := he D.length y (by simp)
    unfold stepR
    rw [hy]
    dsimp only
    split
    · rename_i hc
      rw [List.dropLast_concat]
      refine ⟨⟨_, List.getLast?_concat, rfl⟩, fun z hz => ?_, fun i z hz => ?_, fun i z z' hz hz' => ?_⟩
      · rcases snoc_get hz with ⟨h1, h2⟩ | ⟨h1, rfl⟩
        · exact hf z (by rw [List.getElem?_append_left h1]; exact h2)
        · exact hf y (by rw [List.getElem?_append_right (by omega)]; simp [← h1])
      · rcases snoc_get hz with ⟨h1, h2⟩ | ⟨h1, rfl⟩
        · obtain ⟨a1, a2, a3, a4⟩ := he i z (by rw [List.getElem?_append_left h1]; exact h2)
          exact ⟨a1, a2, by simp at a3 ⊢; omega, a4⟩
        · obtain ⟨a1, a2, a3, a4⟩ := hlast
          refine ⟨a1, by simp at a2 a3 ⊢; omega, by simp, fun m h3 h4 => ?_⟩
          by_cases e2 : m ≤ y.to
          · exact a4 m h3 e2
          · have : m = ((k + 1 : Nat) : Int) + 1 := by simp at h4 hyt ⊢; omega
            rw [this]; exact hc.symm
      · rcases snoc_get hz with ⟨h1, h2⟩ | ⟨h1, rfl⟩
        · rcases snoc_get hz' with ⟨h3, h4⟩ | ⟨h3, rfl⟩
          · exact hn i z z' (by rw [List.getElem?_append_left h1]; exact h2) (by rw [List.getElem?_append_left h3]; exact h4)
          · exact hn i z y (by rw [List.getElem?_append_left h1]; exact h2) (by rw [List.getElem?_append_right (by omega)]; simp [h3])
        · have := lt_of_getElem? hz'
          simp at this; omega
    · rename_i hc
      refine ⟨⟨_, List.getLast?_concat, rfl⟩, fun z hz => ?_, fun i z hz => ?_, fun i z z' hz hz' => ?_⟩
      · rcases snoc_get hz with ⟨h1, h2⟩ | ⟨h1, _⟩
        · exact hf z h2
        · simp at h1
      · rcases snoc_get hz with ⟨h1, h2⟩ | ⟨h1, rfl⟩
        · obtain ⟨a1, a2, a3, a4⟩ := he i z h2
          exact ⟨a1, a2, by simp at a3 ⊢; omega, a4⟩
        · exact ⟨by simp; omega, by simp, by simp, fun m h3 h4 => by
            have : m = ((k + 1 : Nat) : Int) + 1 := by simp at h3 h4 ⊢; omega
            rw [this]⟩
      · rcases snoc_get hz with ⟨h1, h2⟩ | ⟨h1, rfl⟩
        · rcases snoc_get hz' with ⟨h3, h4⟩ | ⟨h3, rfl⟩
          · exact hn i z z' h2 h4
          · have hi : i = D.length := by simp at h3; omega
            subst hi
            rw [List.getElem?_append_right (by omega)] at h2
            simp at h2
            subst h2
            exact ⟨by simp at hyt ⊢; omega, hc⟩
        · have := lt_of_getElem? hz'
          simp at this h1; omega
end Go.Proofs
namespace Go.Proofs
open Go Go.Ab
theorem frcO_set {b : Int} : ∀ (r : List Note) (F : List Bool) (i : Nat) (x : Note), r[i]? = some x → x.cancels ≠ b → frcO b r (F.set i false) = frcO b r F
  | [], _, _, _, h, _ => by simp at h
  | y :: r, [], i, x, h, hc => by simp
  | y :: r, f :: F, 0, x, h, hc => by
    simp at h; subst h
    simp [frcO, hc]
  | y :: r, f :: F, i + 1, x, h, hc => by
    simp only [List.set_cons_succ, frcO, frcO_set r F i x (by simpa using h) hc]
theorem frc_without {s : List Int} {m : Int} : ∀ (l : List Note) (i : Nat) (x : Note), l[i]? = some x → (∀ (j : Nat) (y : Note), l[j]? = some y → y.number = x.number → j = i) →
    (∀ j, i < j → (frcL s [x.number] m l)[j]? = (frcL s [] m l)[j]?) ∧ (frcL s [x.number] m l)[i]? = some false ∧ ((frcL s [] m l)[i]? = some false → frcL s [x.number] m l = frcL s [] m l) ∧
    ((∀ y ∈ l, x.cancels ≠ y.number) → frcL s [x.number] m l = (frcL s [] m l).set i false)
  | [], _, _, h, _ => by simp at h
  | y :: r, 0, x, h, hu => by
    simp at h; subst h
    have hr : frcL s [y.number] m r = frcL s [] m r := frcL_ext rfl fun j a b ha hb => by
      rw [ha] at hb; cases hb
      have hne : a.number ≠ y.number := fun e => by have := hu (j + 1) a (by simpa using ha) e; omega
      simp [frcB, hne]
    have hG : frcL s [y.number] m (y :: r) = false :: frcL s [] m r := by simp only [frcL, hr]; simp [frcB]
    refine ⟨fun j hj => ?_, by rw [hG]; rfl, fun h => ?_, fun _ => by rw [hG]; simp [frcL]⟩
    · obtain ⟨k, rfl⟩ : ∃ k, j = k + 1 := ⟨j - 1, by omega⟩
      rw [hG]; simp [frcL]
    · rw [hG]
      simp only [frcL, List.getElem?_cons_zero, Option.some.injEq] at h
      simp only [frcL, h]
  | y :: r, i + 1, x, h, hu => by
    have hx : r[i]? = some x := by simpa using h
    obtain ⟨a1, a2, a3, a4⟩ := frc_without (s := s) (m := m) r i x hx fun j z hz e => by have := hu (j + 1) z (by simpa using hz) e; omega
    have hne : y.number ≠ x.number := fun e => by have := hu 0 y rfl e; omega
    have hb : frcB s [x.number] m y = frcB s [] m y := by simp [frcB, hne]
    refine ⟨fun j hj => ?_, ?_, fun hf => ?_, fun hc => ?_⟩
    · obtain ⟨k, rfl⟩ : ∃ k, j = k + 1 := ⟨j - 1, by omega⟩
      simpa [frcL] using a1 k (by omega)
    · simpa [frcL] using a2
    · have := a3 (by simpa [frcL] using hf)
      simp only [frcL, this, hb]
    · have e := a4 fun z hz => hc z (by simp [hz])
      simp only [frcL, e, hb, List.set_cons_succ, frcO_set r _ i x hx (hc y (by simp))]
theorem inT_count {l : List Note} {F : List Bool} (hF : F.length = l.length) : ∀ k, k ≤ l.length → (inT l F k).length = (F.take k).count true
  | 0, _ => by simp [inT_zero]
  | k + 1, h => by
    have hk : k < F.length := by omega
    rw [inT_succ (by omega) hk, List.length_append, inT_count hF k (by omega), List.take_succ_eq_append_getElem hk, List.count_append]
    cases F[k] <;> simp
theorem count_set {F : List Bool} {i : Nat} (h : F[i]? = some true) : (F.set i false).count true + 1 = F.count true := by
  induction F generalizing i with
  | nil => simp at h
  | cons f F ih =>
    cases i with
    | zero => simp at h; subst h; simp
    | succ i =>
      have := ih (by simpa using h)
      simp only [List.set_cons_succ, List.count_cons]
      omega
end Go.Proofs
namespace Go.Proofs
open Go Go.Ab
theorem inT_succ' {l : List Note} {F : List Bool} {k : Nat} {x : Note} {f : Bool} (h1 : l[k]? = some x) (h2 : F[k]? = some f) : inT l F (k + 1) = inT l F k ++ (if f = true then [x.number] else []) := by
  obtain ⟨h3, h4⟩ := List.getElem?_eq_some_iff.1 h1
  obtain ⟨h5, h6⟩ := List.getElem?_eq_some_iff.1 h2
  rw [inT_succ h3 h5, h4, h6]
theorem inT_split (l : List Note) (F : List Bool) (hF : F.length = l.length) (k : Nat) : ∃ r, inT l F l.length = inT l F k ++ r := by
  unfold inT
  have h : (l.zip F).take l.length = (l.zip F).take k ++ (l.zip F).drop k := by rw [List.take_append_drop, List.take_of_length_le (by simp; omega)]
  rw [h, List.filter_append, List.map_append]
  exact ⟨_, rfl⟩
theorem inT_next {l : List Note} {F : List Bool} (hF : F.length = l.length) {k : Nat} {x : Note} (hx : l[k]? = some x) (hf : F[k]? = some true) : (inT l F l.length)[(inT l F k).length]? = some x.number := by
  obtain ⟨h1, h2⟩ := List.getElem?_eq_some_iff.1 hx
  obtain ⟨h3, h4⟩ := List.getElem?_eq_some_iff.1 hf
  obtain ⟨r, hr⟩ := inT_split l F hF (k + 1)
  rw [hr, inT_succ h1 h3, if_pos h4, h2]
  simp
theorem inT_mono (l : List Note) (F : List Bool) {j k : Nat} (h : j ≤ k) : (inT l F j).length ≤ (inT l F k).length := by
  unfold inT
  rw [List.length_map, List.length_map]
  have : ((l.zip F).take k) = ((l.zip F).take j) ++ ((l.zip F).take k).drop j := by
    have e := List.take_append_drop j ((l.zip F).take k)
    rw [List.take_take, Nat.min_eq_left h] at e
    exact e.symm
  rw [this, List.filter_append, List.length_append]; omega
theorem allOk_one {n : Notes} (hok : allOk n) {i j : Nat} {x y : Note} (hx : n.notes[i]? = some x) (hy : n.notes[j]? = some y) (e : y.number = x.number) : j = i := by
  have h5 := settleI_at hok hx
  have h6 := settleI_at hok hy
  rw [e] at h6; omega
def machL (l : List Note) : List Int := 1 :: l.flatMap fun x => [x.frm, min 999 (x.to + 1)]
theorem machL_take {l : List Note} {k : Nat} (h : k < l.length) : machL (l.take (k + 1)) = machL (l.take k) ++ [l[k].frm, min 999 (l[k].to + 1)] := by
  unfold machL
  rw [List.take_succ_eq_append_getElem h, List.flatMap_append]; simp
theorem machL_len (l : List Note) : (machL l).length = 2 * l.length + 1 := by
  unfold machL
  induction l with
  | nil => rfl
  | cons x l ih => simp only [List.flatMap_cons, List.length_cons, List.length_append, List.length_nil] at ih ⊢; omega
theorem machL_range {n : Notes} (hok : allOk n) : ∀ m ∈ machL n.notes, 1 ≤ m ∧ m ≤ 999 := fun m hm => by
  unfold machL at hm
  rcases List.mem_cons.1 hm with rfl | hm
  · omega
  · obtain ⟨x, hx, hm⟩ := List.mem_flatMap.1 hm
    obtain ⟨k, hk⟩ := List.mem_iff_getElem?.1 hx
    have := hok k x hk
    simp only [nkA, nk3, Bool.and_eq_true, decide_eq_true_eq] at this
    obtain ⟨⟨⟨⟨⟨⟨⟨_, _⟩, ⟨⟨h1, h2⟩, h3, h4⟩, h5⟩, _⟩, _⟩, _⟩, _⟩, _⟩ := this
    simp only [List.mem_cons, List.not_mem_nil, or_false] at hm
    omega
theorem machL_marks (l : List Note) : ∀ m ∈ marksP l, m ∈ machL l := fun m hm => by
  obtain ⟨h, h9⟩ := marks_mem.1 hm
  unfold machL
  rcases h with rfl | ⟨x, hx, rfl | rfl⟩
  · simp
  · exact List.mem_cons_of_mem _ (List.mem_flatMap.2 ⟨x, hx, by simp⟩)
  · exact List.mem_cons_of_mem _ (List.mem_flatMap.2 ⟨x, hx, by simp; omega⟩)
def prs (I : List Int) (a b : Int) : Prop := ∃ p q : Nat, p < q ∧ I[p]? = some a ∧ I[q]? = some b
theorem prs_iff {n : Notes} (hok : allOk n) {F : List Bool} (hF : F.length = n.notes.length) {i j : Nat} {x y : Note} (hij : i < j) (hx : n.notes[i]? = some x) (hy : n.notes[j]? = some y) : prs (inT n.notes F n.notes.length) x.number y.number ↔ F[i]? = some true ∧ F[j]? = some true := by
  constructor
  · rintro ⟨p, q, h1, h2, h3⟩
    exact ⟨(inT_mem hok hF hx).1 (List.mem_of_getElem? h2), (inT_mem hok hF hy).1 (List.mem_of_getElem? h3)⟩
  · rintro ⟨h1, h2⟩
    refine ⟨_, _, ?_, inT_next hF hx h1, inT_next hF hy h2⟩
    have e := inT_succ' hx h1
    have := inT_mono n.notes F (show i + 1 ≤ j by omega)
    rw [e] at this
    simp at this; omega
theorem both_prs {n : Notes} (hok : allOk n) (t : List Int) {i j : Nat} {x y : Note} (hij : i < j) (hx : n.notes[i]? = some x) (hy : n.notes[j]? = some y) : (∃ m ∈ machL n.notes, prs (inT n.notes (frcL t [] m n.notes) n.notes.length) x.number y.number) ↔ bothB n t [] i j = true := by
  rw [both_any (machL_marks n.notes) (machL_range hok), List.any_eq_true]
  refine exists_congr fun m => and_congr_right fun _ => ?_
  rw [prs_iff hok (frcL_len _ _ _ _) hij hx hy, Bool.and_eq_true]
  unfold frcAt
  have l1 := lt_of_getElem? hx
  have l2 := lt_of_getElem? hy
  have hl := frcL_len t [] m n.notes
  rw [List.getElem?_eq_getElem (show i < (frcL t [] m n.notes).length by omega), List.getElem?_eq_getElem (show j < (frcL t [] m n.notes).length by omega)]
  simp
theorem clTo_split (n : Notes) (s w : List Int) {k l : Nat} (h : k ≤ l) : ∃ r, clTo n s w l = clTo n s w k ++ r := by
  induction l with
  | zero =>
    obtain rfl : k = 0 := by omega
    exact ⟨[], by simp⟩
  | succ l ih =>
    by_cases e : k = l + 1
    · subst e; exact ⟨[], by simp⟩
    · obtain ⟨r, hr⟩ := ih (by omega)
      exact ⟨r ++ clRow n s w l n.notes.length, by rw [clTo_succ, hr, List.append_assoc]⟩
theorem clRow_split (n : Notes) (s w : List Int) (a : Nat) {k l : Nat} (h : k ≤ l) : ∃ r, clRow n s w a l = clRow n s w a k ++ r := by
  induction l with
  | zero =>
    obtain rfl : k = 0 := by omega
    exact ⟨[], by simp⟩
  | succ l ih =>
    by_cases e : k = l + 1
    · subst e; exact ⟨[], by simp⟩
    · obtain ⟨r, hr⟩ := ih (by omega)
      exact ⟨r ++ _, by rw [clRow_succ, hr, List.append_assoc]⟩
theorem numAt_of {l : List Note} {i : Nat} {x : Note} (h : l[i]? = some x) : numAt l i = x.number := by simp [numAt, h]
theorem clash_yes {n : Notes} {s w : List Int} {i j : Nat} {x y : Note} (hx : n.notes[i]? = some x) (hy : n.notes[j]? = some y) (h : clOk n s w i j = true) : (clashL n s w)[(clTo n s w i ++ clRow n s w i j).length]? = some (x.number, y.number) := by
  have l1 := lt_of_getElem? hx
  have l2 := lt_of_getElem? hy
  obtain ⟨r, hr⟩ := clTo_split n s w (show i + 1 ≤ n.notes.length by omega)
  obtain ⟨r', hr'⟩ := clRow_split n s w i (show j + 1 ≤ n.notes.length by omega)
  unfold clashL
  rw [hr, clTo_succ, hr', clRow_succ, if_pos h, numAt_of hx, numAt_of hy]
  simp only [List.append_assoc, List.singleton_append, List.length_append]
  rw [List.getElem?_append_right (by omega), List.getElem?_append_right (by omega)]
  simp
theorem clash_no {n : Notes} (hok : allOk n) {s w : List Int} {i j : Nat} {x y : Note} (hx : n.notes[i]? = some x) (hy : n.notes[j]? = some y) (h : clOk n s w i j = false) : (x.number, y.number) ∉ clashL n s w := fun hm => by
  unfold clashL clTo at hm
  obtain ⟨a, ha, hm⟩ := List.mem_flatMap.1 hm
  unfold clRow at hm
  obtain ⟨b, hb, he⟩ := List.mem_map.1 hm
  obtain ⟨hb, hc⟩ := List.mem_filter.1 hb
  rw [List.mem_range] at ha hb
  rw [numAt_of (List.getElem?_eq_getElem ha), numAt_of (List.getElem?_eq_getElem hb)] at he
  injection he with e1 e2
  have h1 := allOk_one hok hx (List.getElem?_eq_getElem ha) e1
  have h2 := allOk_one hok hy (List.getElem?_eq_getElem hb) e2
  subst h1 h2
  rw [hc] at h; cases h
theorem clOk_want {n : Notes} (h0 : checkR n.reg = 0) (hok : allOk n) {s w : List Int} {i j : Nat} {x y : Note} (hij : i < j) (hx : n.notes[i]? = some x) (hy : n.notes[j]? = some y) : clOk n s w i j = (decide (0 < x.drawing) && (decide (x.drawing = y.drawing) && (decide (y.letter < x.letter) && bothB n s w i j))) := by
  have := drawing_nn h0 hok (List.mem_of_getElem? hx)
  unfold clOk
  rw [hx, hy, decide_eq_true hij]
  have e : decide (x.drawing ≠ 0) = decide (0 < x.drawing) := by rw [decide_eq_decide]; omega
  simp only [e]
  cases decide (0 < x.drawing) <;> cases decide (x.drawing = y.drawing) <;> cases decide (y.letter < x.letter) <;> cases bothB n s w i j <;> rfl
end Go.Proofs
namespace Go.Proofs
open Go Go.Ab
set_option linter.unusedSimpArgs false
variable {G : Nat → Option (List IC)}
theorem frcL_at' {s w : List Int} {m : Int} : ∀ (l : List Note) (k : Nat) (x : Note), l[k]? = some x → (frcL s w m l)[k]? = some (frcB s w m x && frcO x.number (l.drop (k + 1)) ((frcL s w m l).drop (k + 1)))
  | [], _, _, h => by simp at h
  | y :: r, 0, x, h => by simp at h; subst h; simp [frcL]
  | y :: r, k + 1, x, h => by simpa [frcL] using frcL_at' r k x (by simpa using h)
theorem frcO_step' {a : Int} {l : List Note} {F : List Bool} {j : Nat} {y : Note} {f : Bool} (h1 : l[j]? = some y) (h2 : F[j]? = some f) : frcO a (l.drop j) (F.drop j) = (!(f && decide (y.cancels = a)) && frcO a (l.drop (j + 1)) (F.drop (j + 1))) := by
  obtain ⟨h3, h4⟩ := List.getElem?_eq_some_iff.1 h1
  obtain ⟨h5, h6⟩ := List.getElem?_eq_some_iff.1 h2
  rw [List.drop_eq_getElem_cons h3, List.drop_eq_getElem_cons h5, h4, h6]; rfl
theorem byN_succ' {l : List Note} {F : List Bool} {d : Int} {k : Nat} {x : Note} {f : Bool} (h1 : l[k]? = some x) (h2 : F[k]? = some f) : byN l F d (k + 1) = if f = true ∧ x.drawing = d then x else byN l F d k := by
  simp only [byN, h1, h2, Option.some.injEq]
set_option maxHeartbeats 8000000 in
theorem noteRule_c (n : Notes) (b m d : Nat) (hG : sheetG G) (hN : noteG G) (hS : SortOk G) (hk : NKind n) (hb : b < 256) (hm : m < 65536) (hd : d < 256) (objs : List DObj) : DCall Tryz.prog G 5 [notesv n, u8V (b : Int), u16v (m : Int), u8V (d : Int)] objs (fun rr objs' => rr = bv true ∧ objs' = objs) := by
  refine DCall.frame ?_ (by simp) (by simp) objs
  refine DCall_intro Tryz.func5 rfl Tryz.ntmps5 (by simp) rfl ?_
  try simp only [notesv]
  have c1 := alive_c hG hN hS
  have c2 := ready_c (G := G) n hk
  cases hq : readyB n
  · rw [hq] at c2
    have hs : True := trivial
    repeat' first | (with_reducible first | refine q01 ?_ | refine q02 ?_ | refine q11 ?_ | refine q17 ?_) | (with_reducible refine At.fn_ret (by simp -dsimp [hs]; exact rfl) ?_) | (refine CallE.pure (c1) ?_; try simp -dsimp [hs]) | (refine CallE.pure (c2) ?_; try simp -dsimp [hs]) | (with_reducible refine DT_regionE [0,1,2,3,4,8,9,10,11,12,13,14,15,16,17,18,19,20,21,22,23,24,25,27,35,86,88,89,90,91,120,121,122,123,147,148,161,170] ?_; simp -dsimp [hs]) | (refine DT_cond rfl (fun h => ?_) (fun h => ?_) <;> (try simp only [nrm] at h) <;> (try exact Bool.noConfusion h))
    all_goals try simp -dsimp [hs]
    all_goals try clear hs
  · have R := readyRF hk hq
    rw [hq] at c2
    have c3 := truthOf_c (G := G) n b R.s R.ok (by rw [← isortL]; exact R.o5) hb
    have c4 := machineOf_c (G := G) m hm
    have c5 := drawingOf_c (G := G) n.reg d (by have := R.s.1.1; omega) R.ne hd
    rw [← truthAt'] at c3
    have hsub := R.sub b
    have hsl := R.len b
    generalize truthAt' n b = t at *
    have hM : 1 ≤ ((m % 999 + 1 : Nat) : Int) ∧ ((m % 999 + 1 : Nat) : Int) ≤ 999 := by omega
    generalize ((m % 999 + 1 : Nat) : Int) = M at *
    have hat : d % (nums n.reg).length < (nums n.reg).length := Nat.mod_lt _ (by have := R.ne; cases h : nums n.reg <;> simp_all)
    generalize d % (nums n.reg).length = a at *
    have hD : (nums n.reg)[a]? = some ((nums n.reg).getD a 0) := by simp [hat]
    have hDm := List.mem_of_getElem? hD
    generalize (nums n.reg).getD a 0 = D at *
    have c6 := nForce_c (G := G) n t M hG hN hS R.s hsl
    have c7 := nBy_c (G := G) n t D M hG hN hS R.s hsl
    have c8 := nLetters_c (G := G) n t M hG hN hS R.s hsl
    rw [R.asked hsub hM.1 hM.2, if_pos rfl] at c6 c8
    rw [R.drawn hsub hM.1 hM.2 hDm, if_pos rfl] at c7
    have hLl : (lettersP n t M).length = (nums n.reg).length := by simp [lettersP]
    have hLa : (lettersP n t M)[a]? = some (byF n t [] M D n.notes.length).letter := by simp [lettersP, hD]
    have hFl := frcL_len t [] M n.notes
    have hmem : ∀ (j : Nat) (y : Note) (f : Bool), n.notes[j]? = some y → (frcL t [] M n.notes)[j]? = some f → decide (y.number ∈ inT n.notes (frcL t [] M n.notes) n.notes.length) = f := fun j y f h1 h2 => by
      rw [Bool.eq_iff_iff, decide_eq_true_eq, inT_mem R.ok hFl h1, h2]; simp
    have hiL := inT_len n.notes (frcL t [] M n.notes) n.notes.length
    have hnx := fun (k : Nat) (x : Note) (h1 : n.notes[k]? = some x) (h2 : (frcL t [] M n.notes)[k]? = some true) => inT_next hFl h1 h2
    have hks := fun (k : Nat) => inT_len n.notes (frcL t [] M n.notes) k
    unfold byF at c7 hLa
    have hfat := fun (k : Nat) (x : Note) (h : n.notes[k]? = some x) => frcL_at' (s := t) (w := []) (m := M) n.notes k x h
    have hl12 := R.l
    generalize hF : frcL t [] M n.notes = F at *
    generalize hI : inT n.notes F n.notes.length = I at *
    generalize hLP : lettersP n t M = LP at *
    have ha2 : (a : Int) < LP.length := by omega
    have ha3 : a < LP.length := by omega
    have ha4 : LP[a] = (byN n.notes F D n.notes.length).letter := (List.getElem?_eq_some_iff.1 hLa).2
    clear hG hN hS hLP hF hD hDm
    have ha5 : ¬ LP.length ≤ a := by omega
    have hs : True := trivial
    repeat' first | (with_reducible first | refine q01 ?_ | refine q11 ?_ | refine q12 ?_ | refine q14 ?_) | (refine CallE.pure (c1) ?_; try simp -dsimp [ha2, ha5, hs]) | (refine CallE.pure (c2) ?_; try simp -dsimp [ha2, ha5, hs]) | (refine CallE.pure (c3) ?_; try simp -dsimp [ha2, ha5, hs]) | (refine CallE.pure (c4) ?_; try simp -dsimp [ha2, ha5, hs]) | (refine CallE.pure (c5) ?_; try simp -dsimp [ha2, ha5, hs]) | (refine CallE.pure (c6) ?_; try simp -dsimp [ha2, ha5, hs]) | (refine CallE.pure (c7) ?_; try simp -dsimp [ha2, ha5, hs]) | (refine CallE.pure (c8) ?_; try simp -dsimp [ha2, ha5, hs]) | (with_reducible refine DT_regionE [0,1,2,3,4,8,9,10,11,12,13,14,15,16,17,18,19,20,21,22,23,24,25,27,35,86,88,89,90,91,120,121,122,123,147,148,161,170] ?_; simp -dsimp [ha2, ha5, hs]) | (refine DT_cond rfl (fun h => ?_) (fun h => ?_) <;> (try simp only [nrm] at h) <;> (try exact Bool.noConfusion h))
    all_goals try simp -dsimp [ha2, ha5, hs]
    all_goals try clear hs
    refine DT_loop (ι := { k : Nat // k ≤ n.notes.length }) (fun p => ⟨196, [(4, .one (.ptr 0 0)), (9, bv true), (10, isv t), (11, iv M), (12, iv D), (13, iv (a : Int)), (14, isv I), (16, iv (byN n.notes F D n.notes.length).number), (18, isv LP), (20, iv ((inT n.notes F p.1).length : Int)), (21, iv (byN n.notes F D p.1).letter), (22, iv (byN n.notes F D p.1).number), (88, .one (.im (.sl (n.notes.map encNote)))), (89, iv (n.notes.length : Int)), (90, iv (p.1 : Int))], [.row ((encNotes n).map .im)]⟩) (fun p => n.notes.length - p.1) ⟨0, by simp⟩ (Weak.of_keep [4,9,10,11,12,13,14,16,18,20,21,22,88,89,90] (by simp [byN, note1, inT_zero])) ?_
    rintro ⟨k, hk⟩
    simp only [iv, isv, bv]
    by_cases hlt : k < n.notes.length
    · have hx0 : n.notes[k]? = some n.notes[k] := List.getElem?_eq_getElem hlt
      have hkF : k < F.length := by omega
      have hf0 : F[k]? = some F[k] := List.getElem?_eq_getElem hkF
      have hw : IntKind.i64.wrap ((k : Int) + 1) = ((k + 1 : Nat) : Int) := i64w (by omega) (by omega)
      have e1 := hfat k _ hx0
      rw [hf0] at e1
      have e2 := inT_succ' hx0 hf0
      have e3 := byN_succ' (d := D) hx0 hf0
      have e4 := hnx k _ hx0
      rw [hf0] at e4
      have e5 := hmem k _ _ hx0 hf0
      have e6 := hks k
      generalize hx : n.notes[k] = x at *
      generalize hf : F[k] = f at *
      have d1 := hasL_c (G := G) t x.number (by omega)
      have d2 := hasL_c (G := G) I x.number (by omega)
      rw [e5] at d2
      have e1 := Option.some.inj e1
      have hds : ∀ objs, dslice objs (.im (.sl (n.notes.map encNote))) ((k : Int) + 1) none 10 = some (.im (.sl ((n.notes.drop (k + 1)).map encNote))) := fun objs => by
        rw [show (k : Int) + 1 = ((k + 1 : Nat) : Int) by omega]
        exact dslice_drop objs n.notes encNote (k + 1) 10 (by omega) (fun _ => rfl)
      have hkl := hks (k + 1)
      have hs : True := trivial
      have tt : True := trivial
      rcases (show (x.signed = 2 ∧ True ∧ x.frm ≤ M) ∨ (x.signed = 2 ∧ True ∧ ¬ x.frm ≤ M) ∨ (¬ x.signed = 2 ∧ x.number ∈ t ∧ x.frm ≤ M) ∨ (¬ x.signed = 2 ∧ x.number ∈ t ∧ ¬ x.frm ≤ M) ∨ (¬ x.signed = 2 ∧ x.number ∉ t ∧ True) by
        by_cases a1 : x.signed = 2 <;> by_cases a2 : x.number ∈ t <;> by_cases a3 : x.frm ≤ M <;> simp [a1, a2, a3]) with ⟨hs2, hm2, h3⟩ | ⟨hs2, hm2, h3⟩ | ⟨hs2, hm2, h3⟩ | ⟨hs2, hm2, h3⟩ | ⟨hs2, hm2, h3⟩
      all_goals try simp only [hm2, decide_true, decide_false] at d1
      have hs : True := trivial
      repeat' first | (with_reducible first | refine q01 ?_ | refine q11 ?_ | refine q12 ?_ | refine q14 ?_) | (refine CallE.pure (d1) ?_; try simp -dsimp [hx, hlt, hw, hds, hs2, hm2, h3, hs]) | (with_reducible refine DT_regionE [0,1,2,3,4,8,9,10,11,12,13,14,15,16,17,18,19,20,21,22,23,24,25,27,35,86,88,89,90,91,120,121,122,123,147,148,161,170] ?_; simp -dsimp [hx, hlt, hw, hds, hs2, hm2, h3, hs]) | (refine DT_cond rfl (fun h => ?_) (fun h => ?_) <;> (try simp only [nrm] at h) <;> (try exact Bool.noConfusion h))
      all_goals try simp -dsimp [hx, hlt, hw, hds, hs2, hm2, h3, hs]
      all_goals try clear hs
      all_goals
        refine DT_loop (ι := { p : Nat × Bool // p.1 ≤ n.notes.length - (k + 1) ∧ f = (p.2 && frcO x.number (n.notes.drop (k + 1 + p.1)) (F.drop (k + 1 + p.1))) }) (fun p => ⟨196, [(4, .one (.ptr 0 0)), (9, bv true), (10, isv t), (11, iv M), (12, iv D), (13, iv (a : Int)), (14, isv I), (16, iv (byN n.notes F D n.notes.length).number), (18, isv LP), (20, iv ((inT n.notes F k).length : Int)), (21, iv (byN n.notes F D k).letter), (22, iv (byN n.notes F D k).number), (24, .one (.ptr 1 0)), (25, bv p.1.2), (88, .one (.im (.sl (n.notes.map encNote)))), (89, iv (n.notes.length : Int)), (90, iv (k : Int)), (120, .one (.im (.sl (List.drop (k + 1) (List.map encNote n.notes))))), (121, iv ((n.notes.length - (k + 1) : Nat) : Int)), (122, iv (p.1.1 : Int))], [.row ((encNotes n).map .im), .row ((encNote x).map .im)]⟩) (fun p => n.notes.length - (k + 1) - p.1.1) ⟨(0, frcB t [] M x), by omega, e1⟩ (Weak.of_keep [4,9,10,11,12,13,14,16,18,20,21,22,24,25,88,89,90,120,121,122] (by simp [frcB, hs2, hm2, h3])) ?_
        clear d1 e1 hs2 hm2 h3
        rintro ⟨⟨j, B⟩, hj, hB⟩
        simp only at hj hB
        simp only [iv, isv, bv]
        by_cases hjl : j < n.notes.length - (k + 1)
        · have hjn : k + 1 + j < n.notes.length := by omega
          have hjF : k + 1 + j < F.length := by omega
          have hwj : IntKind.i64.wrap ((j : Int) + 1) = ((j + 1 : Nat) : Int) := i64w (by omega) (by omega)
          have e7 := frcO_step' (a := x.number) (List.getElem?_eq_getElem hjn) (List.getElem?_eq_getElem hjF)
          have e8 := hmem (k + 1 + j) _ _ (List.getElem?_eq_getElem hjn) (List.getElem?_eq_getElem hjF)
          rw [e7] at hB
          generalize hy : n.notes[k + 1 + j] = y at *
          generalize hfy : F[k + 1 + j] = fy at *
          have d3 := hasL_c (G := G) I y.number (by omega)
          rw [e8] at d3
          have hjl2 : (j : Int) < ((n.notes.length - (k + 1) : Nat) : Int) := by omega
          cases B
          · have hs : True := trivial
            repeat' first | (with_reducible first | refine q01 ?_ | refine q04 ?_ | refine q11 ?_ | refine q12 ?_ | refine q14 ?_) | (with_reducible refine DT_regionE [0,1,2,3,4,8,9,10,11,12,13,14,15,16,17,18,19,20,21,22,23,24,25,27,35,86,88,89,90,91,120,121,122,123,147,148,161,170] ?_; simp -dsimp [hjl2, hjl, hwj, hy, hs]) | (refine DT_cond rfl (fun h => ?_) (fun h => ?_) <;> (try simp only [nrm] at h) <;> (try exact Bool.noConfusion h))
            all_goals try simp -dsimp [hjl2, hjl, hwj, hy, hs]
            all_goals try clear hs
            all_goals exact At.round ⟨(j + 1, false), by omega, by simpa using hB⟩ (by simp only; omega) (Weak.of_drop [4,9,10,11,12,13,14,16,18,20,21,22,24,25,88,89,90,120,121,122] 2 (by simp) (by simp) (by simp))
          · by_cases hyc : y.cancels = x.number
            · have hs : True := trivial
              repeat' first | (with_reducible first | refine q01 ?_ | refine q04 ?_ | refine q11 ?_ | refine q12 ?_ | refine q14 ?_) | (refine CallE.pure (d3) ?_; try simp -dsimp [hjl2, hjl, hwj, hy, hyc, hs]) | (with_reducible refine DT_regionE [0,1,2,3,4,8,9,10,11,12,13,14,15,16,17,18,19,20,21,22,23,24,25,27,35,86,88,89,90,91,120,121,122,123,147,148,161,170] ?_; simp -dsimp [hjl2, hjl, hwj, hy, hyc, hs]) | (refine DT_cond rfl (fun h => ?_) (fun h => ?_) <;> (try simp only [nrm] at h) <;> (try exact Bool.noConfusion h))
              all_goals try simp -dsimp [hjl2, hjl, hwj, hy, hyc, hs]
              all_goals try clear hs
              all_goals exact At.round ⟨(j + 1, !fy), by omega, by simpa [hyc, ← Nat.add_assoc] using hB⟩ (by simp only; omega) (Weak.of_drop [4,9,10,11,12,13,14,16,18,20,21,22,24,25,88,89,90,120,121,122] 2 (by simp) (by simp) (by simp))
            · have hs : True := trivial
              repeat' first | (with_reducible first | refine q01 ?_ | refine q04 ?_ | refine q11 ?_ | refine q12 ?_ | refine q14 ?_) | (with_reducible refine DT_regionE [0,1,2,3,4,8,9,10,11,12,13,14,15,16,17,18,19,20,21,22,23,24,25,27,35,86,88,89,90,91,120,121,122,123,147,148,161,170] ?_; simp -dsimp [hjl2, hjl, hwj, hy, hyc, hs]) | (refine DT_cond rfl (fun h => ?_) (fun h => ?_) <;> (try simp only [nrm] at h) <;> (try exact Bool.noConfusion h))
              all_goals try simp -dsimp [hjl2, hjl, hwj, hy, hyc, hs]
              all_goals try clear hs
              all_goals exact At.round ⟨(j + 1, true), by omega, by simpa [hyc, ← Nat.add_assoc] using hB⟩ (by simp only; omega) (Weak.of_drop [4,9,10,11,12,13,14,16,18,20,21,22,24,25,88,89,90,120,121,122] 2 (by simp) (by simp) (by simp))
        · obtain rfl : j = n.notes.length - (k + 1) := by omega
          rw [show k + 1 + (n.notes.length - (k + 1)) = n.notes.length by omega, List.drop_length, show F.drop n.notes.length = [] from List.drop_eq_nil_of_le (by omega)] at hB
          have hB2 : f = B := by rw [hB]; simp [frcO]
          clear hB
          subst hB2
          cases f
          · simp only [Bool.false_eq_true, if_false, List.append_nil, false_and] at e2 e3
            have hs : True := trivial
            repeat' first | (with_reducible first | refine q01 ?_ | refine q03 ?_ | refine q04 ?_ | refine q06 ?_ | refine q11 ?_ | refine q14 ?_ | refine q16 ?_) | (refine CallE.pure (d2) ?_; try simp -dsimp [hjl, hw, hs]) | (with_reducible refine DT_regionE [0,1,2,3,4,8,9,10,11,12,13,14,15,16,17,18,19,20,21,22,23,24,25,27,35,86,88,89,90,91,120,121,122,123,147,148,161,170] ?_; simp -dsimp [hjl, hw, hs]) | (refine DT_cond rfl (fun h => ?_) (fun h => ?_) <;> (try simp only [nrm] at h) <;> (try exact Bool.noConfusion h))
            all_goals try simp -dsimp [hjl, hw, hs]
            all_goals try clear hs
            all_goals exact At.round ⟨k + 1, by omega⟩ (by simp; omega) (Weak.of_drop [4,9,10,11,12,13,14,16,18,20,21,22,88,89,90] 1 (by simp) (by simp) (by simp [e2, e3]))
          · have e9 := e4 rfl
            obtain ⟨q1, q2⟩ := List.getElem?_eq_some_iff.1 e9
            simp only [if_true, true_and] at e2 e3
            have q3 : ((inT n.notes F k).length : Int) < I.length := by omega
            have q4 : ¬ I.length ≤ (inT n.notes F k).length := by omega
            have hw7 : IntKind.i64.wrap (((inT n.notes F k).length : Int) + 1) = (((inT n.notes F k).length + 1 : Nat) : Int) := i64w (by omega) (by omega)
            have e2l : (inT n.notes F (k + 1)).length = (inT n.notes F k).length + 1 := by rw [e2]; simp
            by_cases hxd : x.drawing = D
            · rw [if_pos hxd] at e3
              have hs : True := trivial
              repeat' first | (with_reducible first | refine q01 ?_ | refine q03 ?_ | refine q04 ?_ | refine q06 ?_ | refine q11 ?_ | refine q14 ?_ | refine q16 ?_) | (refine CallE.pure (d2) ?_; try simp -dsimp [hjl, hw, q1, q2, q3, q4, e9, hw7, hxd, hs]) | (refine DT_regionM (id := 24) (nt := 196) 13 [0,1,2,3,4,8,9,10,11,12,13,14,15,16,17,18,19,20,21,22,23,24,25,27,35,86,88,89,90,91,120,121,122,123,147,148,161,170] mixed rfl (by kernel_rfl) ?_; simp -dsimp [hjl, hw, q1, q2, q3, q4, e9, hw7, hxd, hs]) | (refine DT_regionM (id := 28) (nt := 196) 6 [0,1,2,3,4,8,9,10,11,12,13,14,15,16,17,18,19,20,21,22,23,24,25,27,35,86,88,89,90,91,120,121,122,123,147,148,161,170] mixed rfl (by kernel_rfl) ?_; simp -dsimp [hjl, hw, q1, q2, q3, q4, e9, hw7, hxd, hs]) | (with_reducible refine DT_regionE [0,1,2,3,4,8,9,10,11,12,13,14,15,16,17,18,19,20,21,22,23,24,25,27,35,86,88,89,90,91,120,121,122,123,147,148,161,170] ?_; simp -dsimp [hjl, hw, q1, q2, q3, q4, e9, hw7, hxd, hs]) | (refine DT_cond rfl (fun h => ?_) (fun h => ?_) <;> (try simp only [nrm] at h) <;> (try exact Bool.noConfusion h))
              all_goals try simp -dsimp [hjl, hw, q1, q2, q3, q4, e9, hw7, hxd, hs]
              all_goals try clear hs
              all_goals exact At.round ⟨k + 1, by omega⟩ (by simp; omega) (Weak.of_drop [4,9,10,11,12,13,14,16,18,20,21,22,88,89,90] 1 (by simp) (by simp) (by simp [e2l, e3]))
            · rw [if_neg hxd] at e3
              have hs : True := trivial
              repeat' first | (with_reducible first | refine q01 ?_ | refine q03 ?_ | refine q04 ?_ | refine q06 ?_ | refine q11 ?_ | refine q14 ?_ | refine q16 ?_) | (refine CallE.pure (d2) ?_; try simp -dsimp [hjl, hw, q1, q2, q3, q4, e9, hw7, hxd, hs]) | (refine DT_regionM (id := 24) (nt := 196) 13 [0,1,2,3,4,8,9,10,11,12,13,14,15,16,17,18,19,20,21,22,23,24,25,27,35,86,88,89,90,91,120,121,122,123,147,148,161,170] mixed rfl (by kernel_rfl) ?_; simp -dsimp [hjl, hw, q1, q2, q3, q4, e9, hw7, hxd, hs]) | (with_reducible refine DT_regionE [0,1,2,3,4,8,9,10,11,12,13,14,15,16,17,18,19,20,21,22,23,24,25,27,35,86,88,89,90,91,120,121,122,123,147,148,161,170] ?_; simp -dsimp [hjl, hw, q1, q2, q3, q4, e9, hw7, hxd, hs]) | (refine DT_cond rfl (fun h => ?_) (fun h => ?_) <;> (try simp only [nrm] at h) <;> (try exact Bool.noConfusion h))
              all_goals try simp -dsimp [hjl, hw, q1, q2, q3, q4, e9, hw7, hxd, hs]
              all_goals try clear hs
              all_goals exact At.round ⟨k + 1, by omega⟩ (by simp; omega) (Weak.of_drop [4,9,10,11,12,13,14,16,18,20,21,22,88,89,90] 1 (by simp) (by simp) (by simp [e2l, e3]))
    · obtain rfl : k = n.notes.length := by omega
      rw [hI] at *
      have hs : True := trivial
      repeat' first | (with_reducible first | refine q01 ?_ | refine q03 ?_ | refine q06 ?_ | refine q11 ?_ | refine q16 ?_ | refine q17 ?_) | (with_reducible refine At.fn_ret (by simp -dsimp [hlt, ha3, ha4, hs]; exact rfl) ?_) | (with_reducible refine DT_regionE [0,1,2,3,4,8,9,10,11,12,13,14,15,16,17,18,19,20,21,22,23,24,25,27,35,86,88,89,90,91,120,121,122,123,147,148,161,170] ?_; simp -dsimp [hlt, ha3, ha4, hs]) | (refine DT_cond rfl (fun h => ?_) (fun h => ?_) <;> (try simp only [nrm] at h) <;> (try exact Bool.noConfusion h))
      all_goals try simp -dsimp [hlt, ha3, ha4, hs]
      all_goals try clear hs
end Go.Proofs
