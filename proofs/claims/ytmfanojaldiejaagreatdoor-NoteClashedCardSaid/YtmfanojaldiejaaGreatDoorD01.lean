/- Part 31 of the proofs: laws and walks that hold without conditions beyond those that each theorem names. -/
import Derived.Test.YtmfanojaldiejaaGreatDoorA23
import Derived.Test.YtmfanojaldiejaaGreatDoorA24
import Derived.Test.YtmfanojaldiejaaGreatDoorA26
import Derived.Test.YtmfanojaldiejaaGreatDoorA27
set_option linter.all false
set_option linter.deprecated false
namespace Go.Proofs
open Go Go.Ab
theorem lettersK_ext {n n' : Notes} {s s' : List Int} {m : Int} (hr : n'.reg = n.reg) (h : ∀ d, letF n' s' d m = letF n s d m) : lettersK n' s' m = lettersK n s m := by
  unfold lettersK
  rw [hr]
  exact List.map_congr_left fun d _ => h d
theorem selN_mem' {N : List Int} {s : Nat} {x : Int} : x ∈ selN N s N.length ↔ ∃ i : Nat, i < N.length ∧ s.testBit i = true ∧ N[i]? = some x := selN_mem (Nat.le_refl _)
theorem bits5 : ∀ s < 32, ∀ i < 5, ∀ j < 5, (s.testBit i = false → (s + 2 ^ i).testBit j = (s.testBit j || decide (j = i))) := by decide +kernel
theorem letsL_get {n : Notes} {m : Int} {O : List Int} {k P : Nat} (h : k < P) : (letsL n m O P)[k]? = some (lettersK n (selN O k O.length) m) := letsL_at h
theorem mat_settle {n : Notes} (hok : allOk n) (h5 : (openL n.notes).length ≤ 5) {i j : Nat} {x : Note} (hx : n.notes[i]? = some x) (ho : x.signed = 1) (hj : (isort (openL n.notes))[j]? = some x.number) (m : Int) :
    (matM (difB (letsL n m (isort (openL n.notes)) (2 ^ (isort (openL n.notes)).length))) (isort (openL n.notes)).length (2 ^ (isort (openL n.notes)).length)).testBit j = true ↔
      ∃ t : List Int, t.Sublist (isort (openL (setSg n.notes i 0))) ∧ lettersK ⟨n.reg, setSg n.notes i 2⟩ t m ≠ lettersK ⟨n.reg, setSg n.notes i 0⟩ t m := by
  have hOs := isort_strict (openL_nodup hok)
  have hO5 : (isort (openL n.notes)).length ≤ 5 := by rw [isort_len]; exact h5
  rw [open_list hok hx (v := 0) (by omega) (by omega)]
  generalize isort (openL n.notes) = O at *
  have hjl := lt_of_getElem? hj
  rw [mat_eq hO5 hjl]
  have hP : 2 ^ O.length ≤ 2 ^ 5 := Nat.pow_le_pow_right (by omega) hO5
  have hinj : ∀ k, O[k]? = some x.number → k = j := fun k hk => by
    have hkl := lt_of_getElem? hk
    rw [List.pairwise_iff_getElem] at hOs
    have e1 := (List.getElem?_eq_some_iff.1 hj).2
    have e2 := (List.getElem?_eq_some_iff.1 hk).2
    rcases Nat.lt_trichotomy k j with h | h | h
    · have := hOs k j hkl hjl h; omega
    · exact h
    · have := hOs j k hjl hkl h; omega
  -- a set without it, and the set with it
  have step : ∀ s, s < 2 ^ O.length → s.testBit j = false → s + 2 ^ j < 2 ^ O.length ∧ x.number ∉ selN O s O.length ∧ ∀ y, y ∈ selN O (s + 2 ^ j) O.length ↔ y ∈ selN O s O.length ∨ y = x.number := fun s hs hb => by
    refine ⟨?_, fun h => ?_, fun y => ?_⟩
    · rw [← (xor_all s (by omega) j (by omega)).1 hb]
      exact Nat.xor_lt_two_pow hs (Nat.pow_lt_pow_right (by omega) hjl)
    · obtain ⟨k, h1, h2, h3⟩ := selN_mem'.1 h
      rw [hinj k h3, hb] at h2; cases h2
    · rw [selN_mem', selN_mem']
      constructor
      · rintro ⟨k, h1, h2, h3⟩
        rw [bits5 s (by omega) j (by omega) k (by omega) hb, Bool.or_eq_true, decide_eq_true_eq] at h2
        rcases h2 with h2 | rfl
        · exact .inl ⟨k, h1, h2, h3⟩
        · rw [hj] at h3; exact .inr (Option.some.inj h3).symm
      · rintro (⟨k, h1, h2, h3⟩ | rfl)
        · exact ⟨k, h1, by rw [bits5 s (by omega) j (by omega) k (by omega) hb, h2]; rfl, h3⟩
        · exact ⟨j, hjl, by rw [bits5 s (by omega) j (by omega) j (by omega) hb]; simp, hj⟩
  have lets : ∀ s, s < 2 ^ O.length → s.testBit j = false → lettersK ⟨n.reg, setSg n.notes i 2⟩ (selN O s O.length) m = lettersK n (selN O (s + 2 ^ j) O.length) m ∧ lettersK ⟨n.reg, setSg n.notes i 0⟩ (selN O s O.length) m = lettersK n (selN O s O.length) m := fun s hs hb => by
    obtain ⟨_, h2, h3⟩ := step s hs hb
    exact ⟨lettersK_ext rfl fun d => letF_yes hok hx h3 d m, lettersK_ext rfl fun d => letF_no hx ho h2 d m⟩
  rw [matR, List.any_eq_true]
  constructor
  · rintro ⟨s, hs, hd⟩
    rw [List.mem_range] at hs
    simp only [Bool.and_eq_true, Bool.not_eq_true', decide_eq_true_eq] at hd
    obtain ⟨hb, hd⟩ := hd
    obtain ⟨h1, h2, h3⟩ := step s hs hb
    obtain ⟨e1, e2⟩ := lets s hs hb
    refine ⟨selN O s O.length, ?_, fun e => hd ?_⟩
    · have h4 : (selN O s O.length).Sublist O := by
        have := selN_sub O s O.length (Nat.le_refl _)
        rwa [List.take_length] at this
      have h5 := h4.filter fun a => decide (a ≠ x.number)
      rwa [List.filter_eq_self.2 fun a h => by simp; rintro rfl; exact h2 h] at h5
    · rw [letsL_get hs, letsL_get h1, ← e1, ← e2, e]
  · rintro ⟨t, ht, hne⟩
    have hts : t.Sublist O := ht.trans List.filter_sublist
    have hxt : x.number ∉ t := fun h => by
      have := ht.subset h
      rw [List.mem_filter] at this
      simpa using this.2
    have := (truths_mem hOs).2 hts
    unfold truthsL trTo at this
    obtain ⟨s, hs, rfl⟩ := List.mem_map.1 this
    rw [List.mem_range] at hs
    have hb : s.testBit j = false := by
      cases h : s.testBit j
      · rfl
      · exact absurd (selN_mem'.2 ⟨j, hjl, h, hj⟩) hxt
    obtain ⟨h1, _, _⟩ := step s hs hb
    obtain ⟨e1, e2⟩ := lets s hs hb
    refine ⟨s, by simpa using hs, ?_⟩
    simp only [Bool.and_eq_true, Bool.not_eq_true', decide_eq_true_eq]
    refine ⟨hb, fun e => hne ?_⟩
    rw [letsL_get hs, letsL_get h1] at e
    rw [e1, e2]; exact (Option.some.inj e).symm
theorem sureTo_congr {n n' : Notes} {m : Int} {O : List Int} : ∀ k, (∀ t ∈ trTo O k, lettersK n t m = lettersK n' t m) → lettersK n [] m = lettersK n' [] m → sureTo n m O k = sureTo n' m O k
  | 0, _, h => h
  | k + 1, h, h0 => by
    rw [sureTo_succ, sureTo_succ, sureTo_congr k (fun t ht => h t (by rw [trTo_succ]; simp [ht])) h0, h _ (by rw [trTo_succ]; simp)]
end Go.Proofs
namespace Go.Proofs
open Go Go.Ab
theorem frc_step {n : Notes} {s w : List Int} (k : Nat) (h9 : k < 999) (hk : ¬ ((k : Int) + 1) ∈ marksP n.notes) : frcL s w ((k : Int) + 1) n.notes = frcL s w k n.notes := by
  refine frcL_same n.notes fun x hx => ?_
  have h1 : (k : Int) + 1 ≠ x.frm := fun e => hk (marks_mem.2 ⟨.inr ⟨x, hx, .inl e⟩, by omega⟩)
  have h2 : (k : Int) + 1 ≠ x.to + 1 := fun e => hk (marks_mem.2 ⟨.inr ⟨x, hx, .inr e⟩, by omega⟩)
  unfold frcB
  have e1 : decide (x.frm ≤ (k : Int) + 1) = decide (x.frm ≤ (k : Int)) := by rw [decide_eq_decide]; omega
  have e2 : decide ((k : Int) + 1 ≤ x.to) = decide ((k : Int) ≤ x.to) := by rw [decide_eq_decide]; omega
  rw [e1, e2]
theorem frc_mark {n : Notes} (s w : List Int) : ∀ k : Nat, k < 999 → ∃ m ∈ marksP n.notes, frcL s w ((k : Int) + 1) n.notes = frcL s w m n.notes
  | 0, _ => ⟨1, marks_mem.2 ⟨.inl rfl, by omega⟩, rfl⟩
  | k + 1, h => by
    by_cases hm : ((k + 1 : Nat) : Int) + 1 ∈ marksP n.notes
    · exact ⟨_, hm, rfl⟩
    · obtain ⟨m, h1, h2⟩ := frc_mark (n := n) s w k (by omega)
      refine ⟨m, h1, ?_⟩
      rw [frc_step (k + 1) h hm]
      exact h2
theorem both_any {n : Notes} {s w M : List Int} (h1 : ∀ m ∈ marksP n.notes, m ∈ M) (h2 : ∀ m ∈ M, 1 ≤ m ∧ m ≤ 999) (a b : Nat) : bothB n s w a b = M.any fun m => frcAt n s w m a && frcAt n s w m b := by
  unfold bothB
  rw [Bool.eq_iff_iff, List.any_eq_true, List.any_eq_true]
  constructor
  · rintro ⟨m, hm, h⟩; exact ⟨m, h1 m hm, h⟩
  · rintro ⟨m, hm, h⟩
    obtain ⟨h3, h4⟩ := h2 m hm
    obtain ⟨m', h5, h6⟩ := frc_mark (n := n) s w (m - 1).toNat (by omega)
    rw [show ((m - 1).toNat : Int) + 1 = m by omega] at h6
    refine ⟨m', h5, ?_⟩
    unfold frcAt at h ⊢
    rw [← h6]; exact h
def drawL (l : List Note) (w : List Int) : List Note := l.map fun x => if x.number ∈ w then sgn x 0 else x
theorem strip_draw (l : List Note) (w : List Int) : strip (drawL l w) = strip l := by
  simp only [strip, drawL, List.map_map]
  refine List.map_congr_left fun x _ => ?_
  simp only [Function.comp_apply]
  split <;> rfl
theorem drawL_at {l : List Note} {w : List Int} {j : Nat} {y : Note} (h : (drawL l w)[j]? = some y) : ∃ x, l[j]? = some x ∧ y = if x.number ∈ w then sgn x 0 else x := by
  simp only [drawL, List.getElem?_map, Option.map_eq_some_iff] at h
  obtain ⟨x, h1, h2⟩ := h
  exact ⟨x, h1, h2.symm⟩
theorem frc_draw (n : Notes) (s w : List Int) (m : Int) : frcL (s.filter fun a => decide (a ∉ w)) [] m (drawL n.notes w) = frcL s w m n.notes := by
  refine frcL_ext (strip_draw _ _) fun j y x hy hx => ?_
  obtain ⟨z, h1, h2⟩ := drawL_at hy
  rw [hx] at h1; cases h1
  by_cases hw : x.number ∈ w
  · rw [if_pos hw] at h2
    subst h2
    simp [frcB, sgn, hw]
  · rw [if_neg hw] at h2
    subst h2
    simp [frcB, hw]
theorem rawM_strip (l : List Note) : rawM (strip l) = rawM l := by
  simp only [rawM, strip, List.flatMap_map]; rfl
theorem marks_draw (l : List Note) (w : List Int) : marksP (drawL l w) = marksP l := by
  unfold marksP; rw [← rawM_strip, strip_draw, rawM_strip]
theorem numAt_strip (l : List Note) (i : Nat) : numAt (strip l) i = numAt l i := by
  unfold numAt; rw [strip_at]; cases l[i]? <;> rfl
theorem clOk_draw (n : Notes) (s w : List Int) (a b : Nat) : clOk ⟨n.reg, drawL n.notes w⟩ (s.filter fun a => decide (a ∉ w)) [] a b = clOk n s w a b := by
  have hb : bothB ⟨n.reg, drawL n.notes w⟩ (s.filter fun a => decide (a ∉ w)) [] a b = bothB n s w a b := by
    unfold bothB frcAt
    simp only [marks_draw, frc_draw]
  unfold clOk
  rw [hb]
  have e : ∀ j : Nat, (drawL n.notes w)[j]? = (n.notes[j]?).map fun x => if x.number ∈ w then sgn x 0 else x := fun j => by simp only [drawL, List.getElem?_map]
  dsimp only
  simp only [e]
  cases n.notes[a]? with
  | none => rfl
  | some x => cases n.notes[b]? with
    | none => rfl
    | some y =>
      have h1 : ∀ z : Note, (if z.number ∈ w then sgn z 0 else z).drawing = z.drawing := fun z => by split <;> rfl
      have h2 : ∀ z : Note, (if z.number ∈ w then sgn z 0 else z).letter = z.letter := fun z => by split <;> rfl
      simp only [Option.map_some, h1, h2]
theorem clash_draw (n : Notes) (s w : List Int) : clashL ⟨n.reg, drawL n.notes w⟩ (s.filter fun a => decide (a ∉ w)) [] = clashL n s w := by
  have hl : (drawL n.notes w).length = n.notes.length := by simp [drawL]
  have hn : ∀ j, numAt (drawL n.notes w) j = numAt n.notes j := fun j => by rw [← numAt_strip, strip_draw, numAt_strip]
  unfold clashL clTo clRow
  simp only [hl, clOk_draw, hn]
end Go.Proofs
namespace Go.Proofs
open Go Go.Ab
theorem frcL_none {s w : List Int} {m : Int} : ∀ (l : List Note), (∀ x ∈ l, x.number ∈ w) → frcL s w m l = List.replicate l.length false
  | [], _ => rfl
  | x :: l, h => by
    have ih := frcL_none (s := s) (m := m) l fun y hy => h y (by simp [hy])
    have hx := h x (by simp)
    simp only [frcL, ih, List.length_cons, List.replicate_succ]
    simp [frcB, hx]
theorem clN_all {n : Notes} {s w : List Int} (h : ∀ x ∈ n.notes, x.number ∈ w) : clN n s w = true := by
  have hf : ∀ m a, frcAt n s w m a = false := fun m a => by
    unfold frcAt
    rw [frcL_none _ h, List.getElem?_replicate]
    split <;> rfl
  have hb : ∀ a b, clOk n s w a b = false := fun a b => by
    have : bothB n s w a b = false := by unfold bothB; simp [hf]
    simp [clOk, this]
  have e : clashL n s w = [] := by
    unfold clashL clTo
    rw [List.flatMap_eq_nil_iff]
    intro a _
    unfold clRow
    simp [hb]
  unfold clN; rw [e]; rfl
theorem wS_spec {n : Notes} (hok : allOk n) (s : List Int) : (wS n s).Sublist (isort (n.notes.map fun x => x.number)) ∧ clN n s (wS n s) = true ∧ ∀ z : List Int, z.Sublist (isort (n.notes.map fun x => x.number)) → clN n s z = true → befL z (wS n s) = false := by
  have hA := isort_strict (nums_nodup hok)
  have hl : (isort (n.notes.map fun x => x.number)).length = n.notes.length := by rw [isort_len, List.length_map]
  cases h : sizesL (clN n s) (isort (n.notes.map fun x => x.number)) (n.notes.length + 1) with
  | none =>
    have h1 := sizesL_none _ h (isort (n.notes.map fun x => x.number)) (List.Sublist.refl _) (by omega)
    rw [clN_all fun x hx => isort_mem.2 (List.mem_map.2 ⟨x, hx, rfl⟩)] at h1
    cases h1
  | some x =>
    have h1 := sizesL_some hA _ _ h
    have e : wS n s = x := by unfold wS; rw [h]; rfl
    rw [e]; exact h1
theorem wS_rising {n : Notes} (hok : allOk n) (s : List Int) : (wS n s).Pairwise (· < ·) := (isort_strict (nums_nodup hok)).sublist (wS_spec hok s).1
theorem wS_nil {n : Notes} (hok : allOk n) (s : List Int) : wS n s = [] ↔ (clashL n s []).length = 0 := by
  obtain ⟨_, h2, h3⟩ := wS_spec hok s
  constructor
  · intro h
    rw [h] at h2
    simpa [clN] using h2
  · intro h
    have h4 := h3 [] (by simp) (by simp [clN, h])
    unfold befL at h4
    split at h4
    · rename_i e
      exact List.eq_nil_of_length_eq_zero e.symm
    · rw [decide_eq_false_iff_not] at h4
      exact List.eq_nil_of_length_eq_zero (by rw [List.length_nil] at h4; omega)
end Go.Proofs
namespace Go.Proofs
open Go Go.Ab
theorem snoc_get {α : Type} {D : List α} {a y : α} {i : Nat} (h : (D ++ [a])[i]? = some y) : (i < D.length ∧ D[i]? = some y) ∨ (i = D.length ∧ y = a) := getElem?_snoc h
structure SegOk (f : Int → Int) (k : Int) (L : List Str) : Prop where
  last : ∃ y, L.getLast? = some y ∧ y.to = k
  first : ∀ y, L[0]? = some y → y.frm = 1
  each : ∀ (i : Nat) (y : Str), L[i]? = some y → 1 ≤ y.frm ∧ y.frm ≤ y.to ∧ y.to ≤ k ∧ ∀ m, y.frm ≤ m → m ≤ y.to → f m = y.letter
  next : ∀ (i : Nat) (y z : Str), L[i]? = some y → L[i + 1]? = some z → y.to + 1 = z.frm ∧ y.letter ≠ z.letter
theorem strR_ok (f : Int → Int) : ∀ k : Nat, SegOk f ((k : Int) + 1) (strR f (k + 1))
  | 0 => by
    have e : strR f 1 = [⟨1, 1, f 1⟩] := rfl
    rw [e]
    refine ⟨⟨_, rfl, rfl⟩, fun y h => by cases h; rfl, fun i y h => ?_, fun i y z h1 h2 => ?_⟩
    · cases i with
      | zero => cases h; exact ⟨Int.le_refl _, Int.le_refl _, by simp, fun m h1 h2 => by rw [show m = 1 by simp at h1 h2; omega]⟩
      | succ i => simp at h
    · simp at h2
  | k + 1 => by
    obtain ⟨⟨y, hy, hyt⟩, hf, he, hn⟩ := strR_ok f k
    have e : strR f (k + 1 + 1) = stepR (strR f (k + 1)) (((k + 1 : Nat) : Int) + 1) (f (((k + 1 : Nat) : Int) + 1)) := rfl
    rw [e]
    generalize strR f (k + 1) = L at *
    have hL : L = L.dropLast ++ [y] := by
      rw [List.getLast?_eq_some_iff] at hy
      obtain ⟨D, rfl⟩ := hy
      simp
    generalize L.dropLast = D at hL
    subst hL
    have hlast := he D.length y (by simp)
    unfold stepR
    rw [hy]
    dsimp only
    split
    · rename_i hc
      rw [List.dropLast_concat]
      refine ⟨⟨_, List.getLast?_concat, rfl⟩, fun z hz => ?_, fun i z hz => ?_, fun i z z' hz hz' => ?_⟩
      · rcases snoc_get hz with ⟨h1, h2⟩ | ⟨h1, rfl⟩
        · exact hf z (by rw [List.getElem?_append_left h1]; exact h2)
        · exact hf y (by rw [List.getElem?_append_right (by omega)]; simp [← h1])
      · rcases snoc_get hz with ⟨h1, h2⟩ | ⟨h1, rfl⟩
        · obtain ⟨a1, a2, a3, a4⟩ := he i z (by rw [List.getElem?_append_left h1]; exact h2)
          exact ⟨a1, a2, by simp at a3 ⊢; omega, a4⟩
        · obtain ⟨a1, a2, a3, a4⟩ := hlast
          refine ⟨a1, by simp at a2 a3 ⊢; omega, by simp, fun m h3 h4 => ?_⟩
          by_cases e2 : m ≤ y.to
          · exact a4 m h3 e2
          · have : m = ((k + 1 : Nat) : Int) + 1 := by simp at h4 hyt ⊢; omega
            rw [this]; exact hc.symm
      · rcases snoc_get hz with ⟨h1, h2⟩ | ⟨h1, rfl⟩
        · rcases snoc_get hz' with ⟨h3, h4⟩ | ⟨h3, rfl⟩
          · exact hn i z z' (by rw [List.getElem?_append_left h1]; exact h2) (by rw [List.getElem?_append_left h3]; exact h4)
          · exact hn i z y (by rw [List.getElem?_append_left h1]; exact h2) (by rw [List.getElem?_append_right (by omega)]; simp [h3])
        · have := lt_of_getElem? hz'
          simp at this; omega
    · rename_i hc
      refine ⟨⟨_, List.getLast?_concat, rfl⟩, fun z hz => ?_, fun i z hz => ?_, fun i z z' hz hz' => ?_⟩
      · rcases snoc_get hz with ⟨h1, h2⟩ | ⟨h1, _⟩
        · exact hf z h2
        · simp at h1
      · rcases snoc_get hz with ⟨h1, h2⟩ | ⟨h1, rfl⟩
        · obtain ⟨a1, a2, a3, a4⟩ := he i z h2
          exact ⟨a1, a2, by simp at a3 ⊢; omega, a4⟩
        · exact ⟨by simp; omega, by simp, by simp, fun m h3 h4 => by
            have : m = ((k + 1 : Nat) : Int) + 1 := by simp at h3 h4 ⊢; omega
            rw [this]⟩
      · rcases snoc_get hz with ⟨h1, h2⟩ | ⟨h1, rfl⟩
        · rcases snoc_get hz' with ⟨h3, h4⟩ | ⟨h3, rfl⟩
          · exact hn i z z' h2 h4
          · have hi : i = D.length := by simp at h3; omega
            subst hi
            rw [List.getElem?_append_right (by omega)] at h2
            simp at h2
            subst h2
            exact ⟨by simp at hyt ⊢; omega, hc⟩
        · have := lt_of_getElem? hz'
          simp at this h1; omega
end Go.Proofs
namespace Go.Proofs
open Go Go.Ab
theorem frcO_set {b : Int} : ∀ (r : List Note) (F : List Bool) (i : Nat) (x : Note), r[i]? = some x → x.cancels ≠ b → frcO b r (F.set i false) = frcO b r F
  | [], _, _, _, h, _ => by simp at h
  | y :: r, [], i, x, h, hc => by simp
  | y :: r, f :: F, 0, x, h, hc => by
    simp at h; subst h
    simp [frcO, hc]
  | y :: r, f :: F, i + 1, x, h, hc => by
    simp only [List.set_cons_succ, frcO, frcO_set r F i x (by simpa using h) hc]
theorem frc_without {s : List Int} {m : Int} : ∀ (l : List Note) (i : Nat) (x : Note), l[i]? = some x → (∀ (j : Nat) (y : Note), l[j]? = some y → y.number = x.number → j = i) →
    (∀ j, i < j → (frcL s [x.number] m l)[j]? = (frcL s [] m l)[j]?) ∧ (frcL s [x.number] m l)[i]? = some false ∧ ((frcL s [] m l)[i]? = some false → frcL s [x.number] m l = frcL s [] m l) ∧
    ((∀ y ∈ l, x.cancels ≠ y.number) → frcL s [x.number] m l = (frcL s [] m l).set i false)
  | [], _, _, h, _ => by simp at h
  | y :: r, 0, x, h, hu => by
    simp at h; subst h
    have hr : frcL s [y.number] m r = frcL s [] m r := frcL_ext rfl fun j a b ha hb => by
      rw [ha] at hb; cases hb
      have hne : a.number ≠ y.number := fun e => by have := hu (j + 1) a (by simpa using ha) e; omega
      simp [frcB, hne]
    have hG : frcL s [y.number] m (y :: r) = false :: frcL s [] m r := by simp only [frcL, hr]; simp [frcB]
    refine ⟨fun j hj => ?_, by rw [hG]; rfl, fun h => ?_, fun _ => by rw [hG]; simp [frcL]⟩
    · obtain ⟨k, rfl⟩ : ∃ k, j = k + 1 := ⟨j - 1, by omega⟩
      rw [hG]; simp [frcL]
    · rw [hG]
      simp only [frcL, List.getElem?_cons_zero, Option.some.injEq] at h
      simp only [frcL, h]
  | y :: r, i + 1, x, h, hu => by
    have hx : r[i]? = some x := by simpa using h
    obtain ⟨a1, a2, a3, a4⟩ := frc_without (s := s) (m := m) r i x hx fun j z hz e => by have := hu (j + 1) z (by simpa using hz) e; omega
    have hne : y.number ≠ x.number := fun e => by have := hu 0 y rfl e; omega
    have hb : frcB s [x.number] m y = frcB s [] m y := by simp [frcB, hne]
    refine ⟨fun j hj => ?_, ?_, fun hf => ?_, fun hc => ?_⟩
    · obtain ⟨k, rfl⟩ : ∃ k, j = k + 1 := ⟨j - 1, by omega⟩
      simpa [frcL] using a1 k (by omega)
    · simpa [frcL] using a2
    · have := a3 (by simpa [frcL] using hf)
      simp only [frcL, this, hb]
    · have e := a4 fun z hz => hc z (by simp [hz])
      simp only [frcL, e, hb, List.set_cons_succ, frcO_set r _ i x hx (hc y (by simp))]
theorem inT_count {l : List Note} {F : List Bool} (hF : F.length = l.length) : ∀ k, k ≤ l.length → (inT l F k).length = (F.take k).count true
  | 0, _ => by simp [inT_zero]
  | k + 1, h => by
    have hk : k < F.length := by omega
    rw [inT_succ (by omega) hk, List.length_append, inT_count hF k (by omega), List.take_succ_eq_append_getElem hk, List.count_append]
    cases F[k] <;> simp
theorem count_set {F : List Bool} {i : Nat} (h : F[i]? = some true) : (F.set i false).count true + 1 = F.count true := by
  induction F generalizing i with
  | nil => simp at h
  | cons f F ih =>
    cases i with
    | zero => simp at h; subst h; simp
    | succ i =>
      have := ih (by simpa using h)
      simp only [List.set_cons_succ, List.count_cons]
      omega
end Go.Proofs
namespace Go.Proofs
open Go Go.Ab
theorem inT_succ' {l : List Note} {F : List Bool} {k : Nat} {x : Note} {f : Bool} (h1 : l[k]? = some x) (h2 : F[k]? = some f) : inT l F (k + 1) = inT l F k ++ (if f = true then [x.number] else []) := by
  obtain ⟨h3, h4⟩ := List.getElem?_eq_some_iff.1 h1
  obtain ⟨h5, h6⟩ := List.getElem?_eq_some_iff.1 h2
  rw [inT_succ h3 h5, h4, h6]
theorem inT_split (l : List Note) (F : List Bool) (hF : F.length = l.length) (k : Nat) : ∃ r, inT l F l.length = inT l F k ++ r := by
  unfold inT
  have h : (l.zip F).take l.length = (l.zip F).take k ++ (l.zip F).drop k := by rw [List.take_append_drop, List.take_of_length_le (by simp; omega)]
  rw [h, List.filter_append, List.map_append]
  exact ⟨_, rfl⟩
theorem inT_next {l : List Note} {F : List Bool} (hF : F.length = l.length) {k : Nat} {x : Note} (hx : l[k]? = some x) (hf : F[k]? = some true) : (inT l F l.length)[(inT l F k).length]? = some x.number := by
  obtain ⟨h1, h2⟩ := List.getElem?_eq_some_iff.1 hx
  obtain ⟨h3, h4⟩ := List.getElem?_eq_some_iff.1 hf
  obtain ⟨r, hr⟩ := inT_split l F hF (k + 1)
  rw [hr, inT_succ h1 h3, if_pos h4, h2]
  simp
theorem inT_mono (l : List Note) (F : List Bool) {j k : Nat} (h : j ≤ k) : (inT l F j).length ≤ (inT l F k).length := by
  unfold inT
  rw [List.length_map, List.length_map]
  have : ((l.zip F).take k) = ((l.zip F).take j) ++ ((l.zip F).take k).drop j := by
    have e := List.take_append_drop j ((l.zip F).take k)
    rw [List.take_take, Nat.min_eq_left h] at e
    exact e.symm
  rw [this, List.filter_append, List.length_append]; omega
theorem allOk_one {n : Notes} (hok : allOk n) {i j : Nat} {x y : Note} (hx : n.notes[i]? = some x) (hy : n.notes[j]? = some y) (e : y.number = x.number) : j = i := by
  have h5 := settleI_at hok hx
  have h6 := settleI_at hok hy
  rw [e] at h6; omega
def machL (l : List Note) : List Int := 1 :: l.flatMap fun x => [x.frm, min 999 (x.to + 1)]
theorem machL_take {l : List Note} {k : Nat} (h : k < l.length) : machL (l.take (k + 1)) = machL (l.take k) ++ [l[k].frm, min 999 (l[k].to + 1)] := by
  unfold machL
  rw [List.take_succ_eq_append_getElem h, List.flatMap_append]; simp
theorem machL_len (l : List Note) : (machL l).length = 2 * l.length + 1 := by
  unfold machL
  induction l with
  | nil => rfl
  | cons x l ih => simp only [List.flatMap_cons, List.length_cons, List.length_append, List.length_nil] at ih ⊢; omega
theorem machL_range {n : Notes} (hok : allOk n) : ∀ m ∈ machL n.notes, 1 ≤ m ∧ m ≤ 999 := fun m hm => by
  unfold machL at hm
  rcases List.mem_cons.1 hm with rfl | hm
  · omega
  · obtain ⟨x, hx, hm⟩ := List.mem_flatMap.1 hm
    obtain ⟨k, hk⟩ := List.mem_iff_getElem?.1 hx
    have := hok k x hk
    simp only [nkA, nk3, Bool.and_eq_true, decide_eq_true_eq] at this
    obtain ⟨⟨⟨⟨⟨⟨⟨_, _⟩, ⟨⟨h1, h2⟩, h3, h4⟩, h5⟩, _⟩, _⟩, _⟩, _⟩, _⟩ := this
    simp only [List.mem_cons, List.not_mem_nil, or_false] at hm
    omega
theorem machL_marks (l : List Note) : ∀ m ∈ marksP l, m ∈ machL l := fun m hm => by
  obtain ⟨h, h9⟩ := marks_mem.1 hm
  unfold machL
  rcases h with rfl | ⟨x, hx, rfl | rfl⟩
  · simp
  · exact List.mem_cons_of_mem _ (List.mem_flatMap.2 ⟨x, hx, by simp⟩)
  · exact List.mem_cons_of_mem _ (List.mem_flatMap.2 ⟨x, hx, by simp; omega⟩)
def prs (I : List Int) (a b : Int) : Prop := ∃ p q : Nat, p < q ∧ I[p]? = some a ∧ I[q]? = some b
theorem prs_iff {n : Notes} (hok : allOk n) {F : List Bool} (hF : F.length = n.notes.length) {i j : Nat} {x y : Note} (hij : i < j) (hx : n.notes[i]? = some x) (hy : n.notes[j]? = some y) : prs (inT n.notes F n.notes.length) x.number y.number ↔ F[i]? = some true ∧ F[j]? = some true := by
  constructor
  · rintro ⟨p, q, h1, h2, h3⟩
    exact ⟨(inT_mem hok hF hx).1 (List.mem_of_getElem? h2), (inT_mem hok hF hy).1 (List.mem_of_getElem? h3)⟩
  · rintro ⟨h1, h2⟩
    refine ⟨_, _, ?_, inT_next hF hx h1, inT_next hF hy h2⟩
    have e := inT_succ' hx h1
    have := inT_mono n.notes F (show i + 1 ≤ j by omega)
    rw [e] at this
    simp at this; omega
theorem both_prs {n : Notes} (hok : allOk n) (t : List Int) {i j : Nat} {x y : Note} (hij : i < j) (hx : n.notes[i]? = some x) (hy : n.notes[j]? = some y) : (∃ m ∈ machL n.notes, prs (inT n.notes (frcL t [] m n.notes) n.notes.length) x.number y.number) ↔ bothB n t [] i j = true := by
  rw [both_any (machL_marks n.notes) (machL_range hok), List.any_eq_true]
  refine exists_congr fun m => and_congr_right fun _ => ?_
  rw [prs_iff hok (frcL_len _ _ _ _) hij hx hy, Bool.and_eq_true]
  unfold frcAt
  have l1 := lt_of_getElem? hx
  have l2 := lt_of_getElem? hy
  have hl := frcL_len t [] m n.notes
  rw [List.getElem?_eq_getElem (show i < (frcL t [] m n.notes).length by omega), List.getElem?_eq_getElem (show j < (frcL t [] m n.notes).length by omega)]
  simp
theorem clTo_split (n : Notes) (s w : List Int) {k l : Nat} (h : k ≤ l) : ∃ r, clTo n s w l = clTo n s w k ++ r := by
  induction l with
  | zero =>
    obtain rfl : k = 0 := by omega
    exact ⟨[], by simp⟩
  | succ l ih =>
    by_cases e : k = l + 1
    · subst e; exact ⟨[], by simp⟩
    · obtain ⟨r, hr⟩ := ih (by omega)
      exact ⟨r ++ clRow n s w l n.notes.length, by rw [clTo_succ, hr, List.append_assoc]⟩
theorem clRow_split (n : Notes) (s w : List Int) (a : Nat) {k l : Nat} (h : k ≤ l) : ∃ r, clRow n s w a l = clRow n s w a k ++ r := by
  induction l with
  | zero =>
    obtain rfl : k = 0 := by omega
    exact ⟨[], by simp⟩
  | succ l ih =>
    by_cases e : k = l + 1
    · subst e; exact ⟨[], by simp⟩
    · obtain ⟨r, hr⟩ := ih (by omega)
      exact ⟨r ++ _, by rw [clRow_succ, hr, List.append_assoc]⟩
theorem numAt_of {l : List Note} {i : Nat} {x : Note} (h : l[i]? = some x) : numAt l i = x.number := by simp [numAt, h]
theorem clash_yes {n : Notes} {s w : List Int} {i j : Nat} {x y : Note} (hx : n.notes[i]? = some x) (hy : n.notes[j]? = some y) (h : clOk n s w i j = true) : (clashL n s w)[(clTo n s w i ++ clRow n s w i j).length]? = some (x.number, y.number) := by
  have l1 := lt_of_getElem? hx
  have l2 := lt_of_getElem? hy
  obtain ⟨r, hr⟩ := clTo_split n s w (show i + 1 ≤ n.notes.length by omega)
  obtain ⟨r', hr'⟩ := clRow_split n s w i (show j + 1 ≤ n.notes.length by omega)
  unfold clashL
  rw [hr, clTo_succ, hr', clRow_succ, if_pos h, numAt_of hx, numAt_of hy]
  simp only [List.append_assoc, List.singleton_append, List.length_append]
  rw [List.getElem?_append_right (by omega), List.getElem?_append_right (by omega)]
  simp
theorem clash_no {n : Notes} (hok : allOk n) {s w : List Int} {i j : Nat} {x y : Note} (hx : n.notes[i]? = some x) (hy : n.notes[j]? = some y) (h : clOk n s w i j = false) : (x.number, y.number) ∉ clashL n s w := fun hm => by
  unfold clashL clTo at hm
  obtain ⟨a, ha, hm⟩ := List.mem_flatMap.1 hm
  unfold clRow at hm
  obtain ⟨b, hb, he⟩ := List.mem_map.1 hm
  obtain ⟨hb, hc⟩ := List.mem_filter.1 hb
  rw [List.mem_range] at ha hb
  rw [numAt_of (List.getElem?_eq_getElem ha), numAt_of (List.getElem?_eq_getElem hb)] at he
  injection he with e1 e2
  have h1 := allOk_one hok hx (List.getElem?_eq_getElem ha) e1
  have h2 := allOk_one hok hy (List.getElem?_eq_getElem hb) e2
  subst h1 h2
  rw [hc] at h; cases h
theorem clOk_want {n : Notes} (h0 : checkR n.reg = 0) (hok : allOk n) {s w : List Int} {i j : Nat} {x y : Note} (hij : i < j) (hx : n.notes[i]? = some x) (hy : n.notes[j]? = some y) : clOk n s w i j = (decide (0 < x.drawing) && (decide (x.drawing = y.drawing) && (decide (y.letter < x.letter) && bothB n s w i j))) := by
  have := drawing_nn h0 hok (List.mem_of_getElem? hx)
  unfold clOk
  rw [hx, hy, decide_eq_true hij]
  have e : decide (x.drawing ≠ 0) = decide (0 < x.drawing) := by rw [decide_eq_decide]; omega
  simp only [e]
  cases decide (0 < x.drawing) <;> cases decide (x.drawing = y.drawing) <;> cases decide (y.letter < x.letter) <;> cases bothB n s w i j <;> rfl
end Go.Proofs
namespace Go.Proofs
open Go Go.Ab
set_option linter.unusedSimpArgs false
variable {G : Nat → Option (List IC)}
def prsTo (I : List Int) (i q : Nat) (a b : Int) : Prop := ∃ p' q' : Nat, p' < q' ∧ I[p']? = some a ∧ I[q']? = some b ∧ (p' < i ∨ p' = i ∧ q' < q)
theorem prsTo_succ {I : List Int} {i q : Nat} {u v : Int} (hu : I[i]? = some u) (hv : I[q]? = some v) (hiq : i < q) (a b : Int) : prsTo I i (q + 1) a b ↔ prsTo I i q a b ∨ (a, b) = (u, v) := by
  constructor
  · rintro ⟨p', q', h1, h2, h3, h4⟩
    by_cases e : p' = i ∧ q' = q
    · obtain ⟨rfl, rfl⟩ := e
      rw [hu] at h2; rw [hv] at h3
      right; rw [Option.some.inj h2, Option.some.inj h3]
    · exact .inl ⟨p', q', h1, h2, h3, by omega⟩
  · rintro (⟨p', q', h1, h2, h3, h4⟩ | e)
    · exact ⟨p', q', h1, h2, h3, by omega⟩
    · injection e with e1 e2
      exact ⟨i, q, hiq, by rw [hu, e1], by rw [hv, e2], by omega⟩
theorem prsTo_row {I : List Int} {i : Nat} (a b : Int) : prsTo I i I.length a b ↔ prsTo I (i + 1) (i + 2) a b := by
  refine exists_congr fun p' => exists_congr fun q' => and_congr_right fun h1 => and_congr_right fun _ => and_congr_right fun h3 => ?_
  have := lt_of_getElem? h3
  omega
theorem prsTo_all {I : List Int} (a b : Int) : prsTo I I.length (I.length + 1) a b ↔ prs I a b := by
  refine exists_congr fun p' => exists_congr fun q' => ⟨fun h => ⟨h.1, h.2.1, h.2.2.1⟩, fun h => ⟨h.1, h.2.1, h.2.2, .inl (by have := lt_of_getElem? h.2.1; omega)⟩⟩
theorem prsTo_zero {I : List Int} (a b : Int) : ¬ prsTo I 0 1 a b := fun ⟨p', q', h1, _, _, h4⟩ => by omega
theorem take_any {T : List Int} {k : Nat} (h : k < T.length) (P : Int → Prop) : (∃ m ∈ T.take (k + 1), P m) ↔ (∃ m ∈ T.take k, P m) ∨ P T[k] := by
  rw [List.take_succ_eq_append_getElem h]
  simp only [List.mem_append, List.mem_singleton]
  constructor
  · rintro ⟨m, h1 | rfl, h2⟩
    · exact .inl ⟨m, h1, h2⟩
    · exact .inr h2
  · rintro (⟨m, h1, h2⟩ | h2)
    · exact ⟨m, .inl h1, h2⟩
    · exact ⟨_, .inr rfl, h2⟩
theorem want_no {x y : Note} {v : Bool} {P : Prop} (e1 : P ↔ v = true) (e2 : false = (decide (0 < x.drawing) && (decide (x.drawing = y.drawing) && (decide (y.letter < x.letter) && v)))) : (¬ 0 < x.drawing ∧ True ∧ True ∧ True) ∨ (0 < x.drawing ∧ ¬ x.drawing = y.drawing ∧ True ∧ True) ∨ (0 < x.drawing ∧ (x.drawing = y.drawing) = True ∧ ¬ y.letter < x.letter ∧ True) ∨ (0 < x.drawing ∧ (x.drawing = y.drawing) = True ∧ y.letter < x.letter ∧ ¬ P) := by
  by_cases a1 : 0 < x.drawing
  · by_cases a2 : x.drawing = y.drawing
    · by_cases a3 : y.letter < x.letter
      · refine .inr (.inr (.inr ⟨a1, eq_true a2, a3, fun h => ?_⟩))
        rw [decide_eq_true a1, decide_eq_true a2, decide_eq_true a3, e1.1 h] at e2
        cases e2
      · exact .inr (.inr (.inl ⟨a1, eq_true a2, a3, trivial⟩))
    · exact .inr (.inl ⟨a1, a2, trivial, trivial⟩)
  · exact .inl ⟨a1, trivial, trivial, trivial⟩
theorem want_yes {x y : Note} {v : Bool} {P : Prop} (e1 : P ↔ v = true) (e2 : true = (decide (0 < x.drawing) && (decide (x.drawing = y.drawing) && (decide (y.letter < x.letter) && v)))) : 0 < x.drawing ∧ (x.drawing = y.drawing) = True ∧ y.letter < x.letter ∧ P := by
  rw [eq_comm] at e2
  simp only [Bool.and_eq_true, decide_eq_true_eq] at e2
  exact ⟨e2.1, eq_true e2.2.1, e2.2.2.1, e1.2 e2.2.2.2⟩
set_option maxHeartbeats 8000000 in
theorem noteClashed_c (n : Notes) (b : Nat) (hG : sheetG G) (hN : noteG G) (hS : SortOk G) (hk : NKind n) (hb : b < 256) (objs : List DObj) : DCall Tryz.prog G 8 [notesv n, u8V (b : Int)] objs (fun rr objs' => rr = bv true ∧ objs' = objs) := by
  refine DCall.frame ?_ (by simp) (by simp) objs
  refine DCall_intro Tryz.func8 rfl Tryz.ntmps8 (by simp) rfl ?_
  try simp only [notesv]
  have c1 := alive_c hG hN hS
  have c2 := ready_c (G := G) n hk
  cases hq : readyB n
  · rw [hq] at c2
    have hs : True := trivial
    repeat' first | (with_reducible first | refine q01 ?_ | refine q02 ?_ | refine q11 ?_ | refine q17 ?_) | (with_reducible refine At.fn_ret (by simp -dsimp [hs]; exact rfl) ?_) | (refine CallE.pure (c1) ?_; try simp -dsimp [hs]) | (refine CallE.pure (c2) ?_; try simp -dsimp [hs]) | (with_reducible refine DT_regionE [0,1,2,4,5,6,7,8,9,10,12,14,15,16,17,18,20,21,22,23,25,26,27,35,47,51,52,53,54,67,68,69,70,81,82,83,84,85,92,93,94,95,106,107,108,109,117,118,119,120,167,168] ?_; simp -dsimp [hs]) | (refine DT_cond rfl (fun h => ?_) (fun h => ?_) <;> (try simp only [nrm] at h) <;> (try exact Bool.noConfusion h))
    all_goals try simp -dsimp [hs]
    all_goals try clear hs
  · have R := readyRF hk hq
    rw [hq] at c2
    have c3 := truthOf_c (G := G) n b R.s R.ok (by rw [← isortL]; exact R.o5) hb
    rw [← truthAt'] at c3
    have hsub := R.sub b
    have hsl := R.len b
    generalize truthAt' n b = t at *
    have c4 := nClash_c n t hG hN hS R.s hsl
    have hA1 := R.asked hsub (m := 1) (by omega) (by omega)
    rw [show clashR n t = clashL n t [] by unfold clashR; rw [if_pos hA1], hA1] at c4
    have hl12 := R.l
    have hok := R.ok
    have hmr := machL_range hok
    have c5 : ∀ m ∈ machL n.notes, ∀ objs, DCall Tryz.prog G 27 [notesv n, isv t, iv m] objs (fun rr o => rr = .tup [isv (inT n.notes (frcL t [] m n.notes) n.notes.length), iv 0] ∧ o = objs) := fun m hm => by
      have := nForce_c (G := G) n t m hG hN hS R.s hsl
      rwa [R.asked hsub (hmr m hm).1 (hmr m hm).2, if_pos rfl] at this
    have hIl := fun m => inT_len n.notes (frcL t [] m n.notes) n.notes.length
    have hbo := fun {i j : Nat} {x y : Note} => both_prs hok t (i := i) (j := j) (x := x) (y := y)
    have hwa := fun {i j : Nat} {x y : Note} => clOk_want R.c hok (s := t) (w := []) (i := i) (j := j) (x := x) (y := y)
    have hye := fun {i j : Nat} {x y : Note} => clash_yes (n := n) (s := t) (w := []) (i := i) (j := j) (x := x) (y := y)
    have hno := fun {i j : Nat} {x y : Note} => clash_no hok (s := t) (w := []) (i := i) (j := j) (x := x) (y := y)
    have hCl : (clashL n t []).length < 1000000 := by
      have h1 := clTo_len n t [] n.notes.length
      have h2 : n.notes.length * n.notes.length ≤ 12 * 12 := Nat.mul_le_mul hl12 hl12
      show (clTo n t [] n.notes.length).length < 1000000
      omega
    have hCe : clTo n t [] n.notes.length = clashL n t [] := rfl
    have hto : ∀ x ∈ n.notes, 1 ≤ x.to ∧ x.to ≤ 999 := fun x hx => by
      obtain ⟨k, hk⟩ := List.mem_iff_getElem?.1 hx
      have := hok k x hk
      simp only [nkA, nk3, Bool.and_eq_true, decide_eq_true_eq] at this
      obtain ⟨⟨⟨⟨⟨⟨⟨_, _⟩, ⟨⟨h1, h2⟩, h3, h4⟩, h5⟩, _⟩, _⟩, _⟩, _⟩, _⟩ := this
      exact ⟨h3, h4⟩
    generalize clashL n t [] = C at *
    clear hG hN hS hA1 hsub R
    have hs : True := trivial
    repeat' first | (with_reducible first | refine q01 ?_ | refine q11 ?_ | refine q12 ?_ | refine q14 ?_) | (refine CallE.pure (c1) ?_; try simp -dsimp [hs]) | (refine CallE.pure (c2) ?_; try simp -dsimp [hs]) | (refine CallE.pure (c3) ?_; try simp -dsimp [hs]) | (refine CallE.pure (c4) ?_; try simp -dsimp [hs]) | (with_reducible refine DT_regionE [0,1,2,4,5,6,7,8,9,10,12,14,15,16,17,18,20,21,22,23,25,26,27,35,47,51,52,53,54,67,68,69,70,81,82,83,84,85,92,93,94,95,106,107,108,109,117,118,119,120,167,168] ?_; simp -dsimp [hs]) | (refine DT_cond rfl (fun h => ?_) (fun h => ?_) <;> (try simp only [nrm] at h) <;> (try exact Bool.noConfusion h))
    all_goals try simp -dsimp [hs]
    all_goals try clear hs
    refine DT_loop (ι := { p : Nat × Nat // p.1 ≤ n.notes.length }) (fun p => ⟨180, [(2, .one (.ptr 0 0)), (5, bv true), (6, isv t), (7, prv C), (9, .one (.map 1)), (10, .one (.vec 2 p.1.2 0 (machL (n.notes.take p.1.1)).length)), (51, .one (.im (.sl (n.notes.map encNote)))), (52, iv (n.notes.length : Int)), (53, iv (p.1.1 : Int))], [.row ((encNotes n).map .im), .map [.int .i64, .int .i64] [], .vec 1 (ims ((machL (n.notes.take p.1.1)).map encI)) p.1.2 false]⟩) (fun p => n.notes.length - p.1.1) ⟨(0, 0), by simp⟩ (Weak.of_keep [2,5,6,7,9,10,51,52,53] (by simp [machL])) ?_
    rintro ⟨⟨k, g⟩, hk⟩
    simp only at hk
    simp only [iv, isv, bv, prv]
    by_cases hlt : k < n.notes.length
    · have hw : IntKind.i64.wrap ((k : Int) + 1) = ((k + 1 : Nat) : Int) := i64w (by omega) (by omega)
      have htk := machL_take hlt
      have hx2 := hto n.notes[k] (List.getElem_mem hlt)
      have hml : (machL (n.notes.take k)).length ≤ 25 := by rw [machL_len, List.length_take]; omega
      generalize hx : n.notes[k] = x at *
      have hw2 : IntKind.i64.wrap (x.to + 1) = x.to + 1 := i64w (by omega) (by omega)
      generalize machL (n.notes.take k) = Q at *
      have hs : True := trivial
      repeat' first | (with_reducible first | refine q01 ?_ | refine q04 ?_ | refine q11 ?_ | refine q12 ?_ | refine q14 ?_ | refine And.intro (by omega) ?_) | (with_reducible refine DT_regionE [0,1,2,4,5,6,7,8,9,10,12,14,15,16,17,18,20,21,22,23,25,26,27,35,47,51,52,53,54,67,68,69,70,81,82,83,84,85,92,93,94,95,106,107,108,109,117,118,119,120,167,168] ?_; simp -dsimp [hlt, hw, hx, hw2, hs]) | (refine DT_cond rfl (fun h => ?_) (fun h => ?_) <;> (try simp only [nrm] at h) <;> (try exact Bool.noConfusion h))
      all_goals try simp -dsimp [hlt, hw, hx, hw2, hs]
      all_goals try clear hs
      all_goals exact At.round ⟨(k + 1, g + 1), by omega⟩ (by simp only; omega) (Weak.of_drop [2,5,6,7,9,10,51,52,53] 3 (by simp) (by simp) (by simp [htk]))
    · obtain rfl : k = n.notes.length := by omega
      rw [List.take_length]
      have hml := machL_len n.notes
      generalize machL n.notes = T at *
      have hs : True := trivial
      repeat' first | (with_reducible first | refine q01 ?_ | refine q03 ?_ | refine q06 ?_ | refine q11 ?_ | refine q12 ?_ | refine q16 ?_) | (with_reducible refine DT_regionE [0,1,2,4,5,6,7,8,9,10,12,14,15,16,17,18,20,21,22,23,25,26,27,35,47,51,52,53,54,67,68,69,70,81,82,83,84,85,92,93,94,95,106,107,108,109,117,118,119,120,167,168] ?_; simp -dsimp [hlt, hs]) | (refine DT_cond rfl (fun h => ?_) (fun h => ?_) <;> (try simp only [nrm] at h) <;> (try exact Bool.noConfusion h))
      all_goals try simp -dsimp [hlt, hs]
      all_goals try clear hs
      refine DT_loop (ι := { p : Nat × List (Int × Int) // p.1 ≤ T.length ∧ ∀ a b, (a, b) ∈ p.2 ↔ ∃ m ∈ T.take p.1, prs (inT n.notes (frcL t [] m n.notes) n.notes.length) a b }) (fun p => ⟨180, [(2, .one (.ptr 0 0)), (5, bv true), (6, isv t), (7, prv C), (9, .one (.map 1)), (67, .one (.vec 2 g 0 T.length)), (68, iv (T.length : Int)), (69, iv (p.1.1 : Int))], [.row ((encNotes n).map .im), .map [.int .i64, .int .i64] (encPS p.1.2), .vec 1 (ims (T.map encI)) g false]⟩) (fun p => T.length - p.1.1) ⟨(0, []), by simp⟩ (Weak.of_keep [2,5,6,7,9,67,68,69] (by simp [encPS])) ?_
      rintro ⟨⟨k, B⟩, hk, hB⟩
      simp only at hk hB
      simp only [iv, isv, bv, prv]
      by_cases hlk : k < T.length
      · have hw : IntKind.i64.wrap ((k : Int) + 1) = ((k + 1 : Nat) : Int) := i64w (by omega) (by omega)
        have htm := List.getElem_mem hlk
        have hany := fun a b => take_any hlk (fun m => prs (inT n.notes (frcL t [] m n.notes) n.notes.length) a b)
        have hmk : T[k]? = some T[k] := List.getElem?_eq_getElem hlk
        generalize hm : T[k] = m at *
        have d1 := c5 m htm
        have hI := hIl m
        generalize inT n.notes (frcL t [] m n.notes) n.notes.length = I at *
        have hs : True := trivial
        repeat' first | (with_reducible first | refine q01 ?_ | refine q11 ?_ | refine q12 ?_ | refine q14 ?_) | (refine CallE.pure (d1) ?_; try simp -dsimp [hlk, hm, hmk, hs]) | (with_reducible refine DT_regionE [0,1,2,4,5,6,7,8,9,10,12,14,15,16,17,18,20,21,22,23,25,26,27,35,47,51,52,53,54,67,68,69,70,81,82,83,84,85,92,93,94,95,106,107,108,109,117,118,119,120,167,168] ?_; simp -dsimp [hlk, hm, hmk, hs]) | (refine DT_cond rfl (fun h => ?_) (fun h => ?_) <;> (try simp only [nrm] at h) <;> (try exact Bool.noConfusion h))
        all_goals try simp -dsimp [hlk, hm, hmk, hs]
        all_goals try clear hs
        refine DT_loop (ι := { p : Nat × List (Int × Int) // p.1 ≤ I.length ∧ ∀ a b, (a, b) ∈ p.2 ↔ (a, b) ∈ B ∨ prsTo I p.1 (p.1 + 1) a b }) (fun p => ⟨180, [(2, .one (.ptr 0 0)), (5, bv true), (6, isv t), (7, prv C), (9, .one (.map 1)), (15, isv I), (67, .one (.vec 2 g 0 T.length)), (68, iv (T.length : Int)), (69, iv (k : Int)), (82, isv I), (83, iv (I.length : Int)), (84, iv (p.1.1 : Int))], [.row ((encNotes n).map .im), .map [.int .i64, .int .i64] (encPS p.1.2), .vec 1 (ims (T.map encI)) g false]⟩) (fun p => I.length - p.1.1) ⟨(0, B), by simp, fun a b => by simp [prsTo_zero]⟩ (Weak.of_keep [2,5,6,7,9,15,67,68,69,82,83,84] (by simp)) ?_
        rintro ⟨⟨i, B1⟩, hi, hB1⟩
        simp only at hi hB1
        simp only [iv, isv, bv, prv]
        by_cases hli : i < I.length
        · have hwi : IntKind.i64.wrap ((i : Int) + 1) = ((i + 1 : Nat) : Int) := i64w (by omega) (by omega)
          have hui : I[i]? = some I[i] := List.getElem?_eq_getElem hli
          generalize hu : I[i] = u at *
          have hds : ∀ objs, dslice objs (.im (.sl (I.map encI))) ((i : Int) + 1) none 1 = some (.im (.sl ((I.drop (i + 1)).map encI))) := fun objs => by
            rw [show (i : Int) + 1 = ((i + 1 : Nat) : Int) by omega]
            exact dslice_drop objs I encI (i + 1) 1 (by omega) (fun _ => rfl)
          have hs : True := trivial
          repeat' first | (with_reducible first | refine q01 ?_ | refine q11 ?_ | refine q12 ?_ | refine q14 ?_) | (with_reducible refine DT_regionE [0,1,2,4,5,6,7,8,9,10,12,14,15,16,17,18,20,21,22,23,25,26,27,35,47,51,52,53,54,67,68,69,70,81,82,83,84,85,92,93,94,95,106,107,108,109,117,118,119,120,167,168] ?_; simp -dsimp [hli, hwi, hu, hds, hs]) | (refine DT_cond rfl (fun h => ?_) (fun h => ?_) <;> (try simp only [nrm] at h) <;> (try exact Bool.noConfusion h))
          all_goals try simp -dsimp [hli, hwi, hu, hds, hs]
          all_goals try clear hs
          refine DT_loop (ι := { p : Nat × List (Int × Int) // p.1 ≤ I.length - (i + 1) ∧ ∀ a b, (a, b) ∈ p.2 ↔ (a, b) ∈ B ∨ prsTo I i (i + 1 + p.1) a b }) (fun p => ⟨180, [(2, .one (.ptr 0 0)), (5, bv true), (6, isv t), (7, prv C), (9, .one (.map 1)), (15, isv I), (18, iv u), (67, .one (.vec 2 g 0 T.length)), (68, iv (T.length : Int)), (69, iv (k : Int)), (82, isv I), (83, iv (I.length : Int)), (84, iv (i : Int)), (92, .one (.im (.sl (List.drop (i + 1) (List.map encI I))))), (93, iv ((I.length - (i + 1) : Nat) : Int)), (94, iv (p.1.1 : Int))], [.row ((encNotes n).map .im), .map [.int .i64, .int .i64] (encPS p.1.2), .vec 1 (ims (T.map encI)) g false]⟩) (fun p => I.length - (i + 1) - p.1.1) ⟨(0, B1), by omega, fun a b => by simpa using hB1 a b⟩ (Weak.of_keep [2,5,6,7,9,15,18,67,68,69,82,83,84,92,93,94] (by simp)) ?_
          rintro ⟨⟨j, B2⟩, hj, hB2⟩
          simp only at hj hB2
          simp only [iv, isv, bv, prv]
          by_cases hlj : j < I.length - (i + 1)
          · have hwj : IntKind.i64.wrap ((j : Int) + 1) = ((j + 1 : Nat) : Int) := i64w (by omega) (by omega)
            have hlj2 : (j : Int) < ((I.length - (i + 1) : Nat) : Int) := by omega
            have hjI : i + 1 + j < I.length := by omega
            have hvj : I[i + 1 + j]? = some I[i + 1 + j] := List.getElem?_eq_getElem hjI
            have hst := fun a b => prsTo_succ hui hvj (by omega) a b
            generalize hv : I[i + 1 + j] = v at *
            have hs : True := trivial
            repeat' first | (with_reducible first | refine q01 ?_ | refine q04 ?_ | refine q11 ?_ | refine q12 ?_ | refine q14 ?_) | (with_reducible refine DT_regionE [0,1,2,4,5,6,7,8,9,10,12,14,15,16,17,18,20,21,22,23,25,26,27,35,47,51,52,53,54,67,68,69,70,81,82,83,84,85,92,93,94,95,106,107,108,109,117,118,119,120,167,168] ?_; simp -dsimp [hlj, hlj2, hwj, hv, hvj, hs]) | (refine DT_cond rfl (fun h => ?_) (fun h => ?_) <;> (try simp only [nrm] at h) <;> (try exact Bool.noConfusion h))
            all_goals try simp -dsimp [hlj, hlj2, hwj, hv, hvj, hs]
            all_goals try clear hs
            all_goals exact At.round ⟨(j + 1, pput (u, v) B2), by omega, fun a b => by rw [mem_pput, hB2, or_assoc, ← hst a b]; rfl⟩ (by simp only; omega) (Weak.of_keep [2,5,6,7,9,15,18,67,68,69,82,83,84,92,93,94] (by simp))
          · obtain rfl : j = I.length - (i + 1) := by omega
            rw [show i + 1 + (I.length - (i + 1)) = I.length by omega] at hB2
            have hs : True := trivial
            repeat' first | (with_reducible first | refine q01 ?_ | refine q03 ?_ | refine q04 ?_ | refine q06 ?_ | refine q11 ?_ | refine q16 ?_) | (with_reducible refine DT_regionE [0,1,2,4,5,6,7,8,9,10,12,14,15,16,17,18,20,21,22,23,25,26,27,35,47,51,52,53,54,67,68,69,70,81,82,83,84,85,92,93,94,95,106,107,108,109,117,118,119,120,167,168] ?_; simp -dsimp [hlj, hwi, hs]) | (refine DT_cond rfl (fun h => ?_) (fun h => ?_) <;> (try simp only [nrm] at h) <;> (try exact Bool.noConfusion h))
            all_goals try simp -dsimp [hlj, hwi, hs]
            all_goals try clear hs
            all_goals exact At.round ⟨(i + 1, B2), by omega, fun a b => by rw [hB2, prsTo_row]⟩ (by simp only; omega) (Weak.of_keep [2,5,6,7,9,15,67,68,69,82,83,84] (by simp))
        · obtain rfl : i = I.length := by omega
          have hs : True := trivial
          repeat' first | (with_reducible first | refine q01 ?_ | refine q03 ?_ | refine q04 ?_ | refine q06 ?_ | refine q11 ?_ | refine q16 ?_) | (with_reducible refine DT_regionE [0,1,2,4,5,6,7,8,9,10,12,14,15,16,17,18,20,21,22,23,25,26,27,35,47,51,52,53,54,67,68,69,70,81,82,83,84,85,92,93,94,95,106,107,108,109,117,118,119,120,167,168] ?_; simp -dsimp [hli, hw, hs]) | (refine DT_cond rfl (fun h => ?_) (fun h => ?_) <;> (try simp only [nrm] at h) <;> (try exact Bool.noConfusion h))
          all_goals try simp -dsimp [hli, hw, hs]
          all_goals try clear hs
          all_goals exact At.round ⟨(k + 1, B1), by omega, fun a b => by rw [hB1, prsTo_all, hB, hany a b]⟩ (by simp only; omega) (Weak.of_keep [2,5,6,7,9,67,68,69] (by simp))
      · obtain rfl : k = T.length := by omega
        rw [List.take_length] at hB
        have hs : True := trivial
        repeat' first | (with_reducible first | refine q01 ?_ | refine q03 ?_ | refine q06 ?_ | refine q11 ?_ | refine q12 ?_ | refine q16 ?_) | (with_reducible refine DT_regionE [0,1,2,4,5,6,7,8,9,10,12,14,15,16,17,18,20,21,22,23,25,26,27,35,47,51,52,53,54,67,68,69,70,81,82,83,84,85,92,93,94,95,106,107,108,109,117,118,119,120,167,168] ?_; simp -dsimp [hlk, hs]) | (refine DT_cond rfl (fun h => ?_) (fun h => ?_) <;> (try simp only [nrm] at h) <;> (try exact Bool.noConfusion h))
        all_goals try simp -dsimp [hlk, hs]
        all_goals try clear hs
        clear c5 hIl hmr
        refine DT_loop (ι := { k : Nat // k ≤ n.notes.length }) (fun p => ⟨180, [(2, .one (.ptr 0 0)), (5, bv true), (7, prv C), (9, .one (.map 1)), (21, iv ((clTo n t [] p.1).length : Int)), (106, .one (.im (.sl (n.notes.map encNote)))), (107, iv (n.notes.length : Int)), (108, iv (p.1 : Int))], [.row ((encNotes n).map .im), .map [.int .i64, .int .i64] (encPS B)]⟩) (fun p => n.notes.length - p.1) ⟨0, by simp⟩ (Weak.of_drop [2,5,7,9,21,106,107,108] 2 (by simp) (by simp) (by simp [clTo])) ?_
        rintro ⟨i, hi⟩
        simp only [iv, isv, bv, prv]
        by_cases hli : i < n.notes.length
        · have hwi : IntKind.i64.wrap ((i : Int) + 1) = ((i + 1 : Nat) : Int) := i64w (by omega) (by omega)
          have hx : n.notes[i]? = some n.notes[i] := List.getElem?_eq_getElem hli
          have hsu := clTo_succ n t [] i
          have hlow := clRow_low n t [] i (i + 1) (by omega)
          generalize hxe : n.notes[i] = x at *
          have hds : ∀ objs, dslice objs (.im (.sl (n.notes.map encNote))) ((i : Int) + 1) none 10 = some (.im (.sl ((n.notes.drop (i + 1)).map encNote))) := fun objs => by
            rw [show (i : Int) + 1 = ((i + 1 : Nat) : Int) by omega]
            exact dslice_drop objs n.notes encNote (i + 1) 10 (by omega) (fun _ => rfl)
          have hs : True := trivial
          repeat' first | (with_reducible first | refine q01 ?_ | refine q11 ?_ | refine q12 ?_ | refine q14 ?_) | (with_reducible refine DT_regionE [0,1,2,4,5,6,7,8,9,10,12,14,15,16,17,18,20,21,22,23,25,26,27,35,47,51,52,53,54,67,68,69,70,81,82,83,84,85,92,93,94,95,106,107,108,109,117,118,119,120,167,168] ?_; simp -dsimp [hli, hwi, hxe, hx, hds, hs]) | (refine DT_cond rfl (fun h => ?_) (fun h => ?_) <;> (try simp only [nrm] at h) <;> (try exact Bool.noConfusion h))
          all_goals try simp -dsimp [hli, hwi, hxe, hx, hds, hs]
          all_goals try clear hs
          refine DT_loop (ι := { j : Nat // j ≤ n.notes.length - (i + 1) }) (fun p => ⟨180, [(2, .one (.ptr 0 0)), (5, bv true), (7, prv C), (9, .one (.map 1)), (21, iv ((clTo n t [] i ++ clRow n t [] i (i + 1 + p.1)).length : Int)), (23, .one (.ptr 2 0)), (106, .one (.im (.sl (n.notes.map encNote)))), (107, iv (n.notes.length : Int)), (108, iv (i : Int)), (117, .one (.im (.sl (List.drop (i + 1) (List.map encNote n.notes))))), (118, iv ((n.notes.length - (i + 1) : Nat) : Int)), (119, iv (p.1 : Int))], [.row ((encNotes n).map .im), .map [.int .i64, .int .i64] (encPS B), .row ((encNote x).map .im)]⟩) (fun p => n.notes.length - (i + 1) - p.1) ⟨0, by omega⟩ (Weak.of_keep [2,5,7,9,21,23,106,107,108,117,118,119] (by simp [hlow])) ?_
          rintro ⟨j, hj⟩
          simp only [iv, isv, bv, prv]
          by_cases hlj : j < n.notes.length - (i + 1)
          · have hwj : IntKind.i64.wrap ((j : Int) + 1) = ((j + 1 : Nat) : Int) := i64w (by omega) (by omega)
            have hlj2 : (j : Int) < ((n.notes.length - (i + 1) : Nat) : Int) := by omega
            have hjn : i + 1 + j < n.notes.length := by omega
            have hy : n.notes[i + 1 + j]? = some n.notes[i + 1 + j] := List.getElem?_eq_getElem hjn
            have e1 := hbo (show i < i + 1 + j by omega) hx hy
            have e2 := hwa (show i < i + 1 + j by omega) hx hy
            have e3 := hye hx hy
            have e4 := hno hx hy
            have e5 := clRow_succ n t [] i (i + 1 + j)
            rw [← hB] at e1
            have hql : (clTo n t [] i ++ clRow n t [] i (i + 1 + j)).length ≤ 200 := by
              have h1 := clTo_len n t [] i
              have h2 := clRow_len n t [] i (i + 1 + j)
              have h3 : i * n.notes.length ≤ 12 * 12 := Nat.mul_le_mul (by omega) hl12
              rw [List.length_append]; omega
            have hw9 : IntKind.i64.wrap (((clTo n t [] i ++ clRow n t [] i (i + 1 + j)).length : Int) + 1) = (((clTo n t [] i ++ clRow n t [] i (i + 1 + j)).length + 1 : Nat) : Int) := i64w (by omega) (by omega)
            have e6 : clOk n t [] i (i + 1 + j) = true → (clTo n t [] i ++ clRow n t [] i (i + 1 + (j + 1))).length = (clTo n t [] i ++ clRow n t [] i (i + 1 + j)).length + 1 := fun h => by
              rw [show i + 1 + (j + 1) = i + 1 + j + 1 by omega, e5, if_pos h]; simp [Nat.add_assoc]
            have e7 : clOk n t [] i (i + 1 + j) = false → (clTo n t [] i ++ clRow n t [] i (i + 1 + (j + 1))).length = (clTo n t [] i ++ clRow n t [] i (i + 1 + j)).length := fun h => by
              rw [show i + 1 + (j + 1) = i + 1 + j + 1 by omega, e5, if_neg (by rw [h]; decide)]; simp
            generalize hqe : (clTo n t [] i ++ clRow n t [] i (i + 1 + j)).length = q at *
            generalize hq2 : (clTo n t [] i ++ clRow n t [] i (i + 1 + (j + 1))).length = q2 at *
            generalize clOk n t [] i (i + 1 + j) = w at *
            generalize bothB n t [] i (i + 1 + j) = v at *
            generalize hyn : n.notes[i + 1 + j] = y at *
            cases w
            · have e4 := e4 rfl
              have e7 := e7 rfl
              subst e7
              clear e3 e5 e6
              rcases want_no e1 e2 with ⟨a1, a2, a3, a4⟩ | ⟨a1, a2, a3, a4⟩ | ⟨a1, a2, a3, a4⟩ | ⟨a1, a2, a3, a4⟩
              all_goals
                by_cases hqC : q2 < C.length
                · have hqi : (q2 : Int) < C.length := by omega
                  have hCq : C[q2]? = some C[q2] := List.getElem?_eq_getElem hqC
                  have hne : ¬ C[q2] = (x.number, y.number) := fun e => e4 (e ▸ List.getElem_mem hqC)
                  generalize hce : C[q2] = c at *
                  obtain ⟨ca, cb⟩ := c
                  have hs : True := trivial
                  rcases (show (¬ ca = x.number ∧ True) ∨ (ca = x.number ∧ ¬ cb = y.number) from (Classical.em (ca = x.number)).elim (fun h => .inr ⟨h, fun h' => hne (by rw [h, h'])⟩) fun h => .inl ⟨h, trivial⟩) with ⟨b1, b2⟩ | ⟨b1, b2⟩
                  have hs : True := trivial
                  repeat' first | (with_reducible first | refine q01 ?_ | refine q04 ?_ | refine q11 ?_ | refine q12 ?_ | refine q14 ?_) | (refine DT_regionM (id := 39) (nt := 180) 17 [0,1,2,4,5,6,7,8,9,10,12,14,15,16,17,18,20,21,22,23,25,26,27,35,47,51,52,53,54,67,68,69,70,81,82,83,84,85,92,93,94,95,106,107,108,109,117,118,119,120,167,168] mixed rfl (by kernel_rfl) ?_; simp -dsimp [hlj, hlj2, hwj, hyn, hy, a1, a2, a3, a4, hqC, hqi, hCq, hce, b1, b2, hs]) | (with_reducible refine DT_regionE [0,1,2,4,5,6,7,8,9,10,12,14,15,16,17,18,20,21,22,23,25,26,27,35,47,51,52,53,54,67,68,69,70,81,82,83,84,85,92,93,94,95,106,107,108,109,117,118,119,120,167,168] ?_; simp -dsimp [hlj, hlj2, hwj, hyn, hy, a1, a2, a3, a4, hqC, hqi, hCq, hce, b1, b2, hs]) | (refine DT_cond rfl (fun h => ?_) (fun h => ?_) <;> (try simp only [nrm] at h) <;> (try exact Bool.noConfusion h))
                  all_goals try simp -dsimp [hlj, hlj2, hwj, hyn, hy, a1, a2, a3, a4, hqC, hqi, hCq, hce, b1, b2, hs]
                  all_goals try clear hs
                  all_goals exact At.round ⟨j + 1, by omega⟩ (by simp only; omega) (Weak.of_drop [2,5,7,9,21,23,106,107,108,117,118,119] 3 (by simp) (by simp) (by simp [hq2]))
                · have hqi : ¬ (q2 : Int) < C.length := by omega
                  have hs : True := trivial
                  repeat' first | (with_reducible first | refine q01 ?_ | refine q04 ?_ | refine q11 ?_ | refine q12 ?_ | refine q14 ?_) | (refine DT_regionM (id := 39) (nt := 180) 17 [0,1,2,4,5,6,7,8,9,10,12,14,15,16,17,18,20,21,22,23,25,26,27,35,47,51,52,53,54,67,68,69,70,81,82,83,84,85,92,93,94,95,106,107,108,109,117,118,119,120,167,168] mixed rfl (by kernel_rfl) ?_; simp -dsimp [hlj, hlj2, hwj, hyn, hy, a1, a2, a3, a4, hqC, hqi, hs]) | (with_reducible refine DT_regionE [0,1,2,4,5,6,7,8,9,10,12,14,15,16,17,18,20,21,22,23,25,26,27,35,47,51,52,53,54,67,68,69,70,81,82,83,84,85,92,93,94,95,106,107,108,109,117,118,119,120,167,168] ?_; simp -dsimp [hlj, hlj2, hwj, hyn, hy, a1, a2, a3, a4, hqC, hqi, hs]) | (refine DT_cond rfl (fun h => ?_) (fun h => ?_) <;> (try simp only [nrm] at h) <;> (try exact Bool.noConfusion h))
                  all_goals try simp -dsimp [hlj, hlj2, hwj, hyn, hy, a1, a2, a3, a4, hqC, hqi, hs]
                  all_goals try clear hs
                  all_goals exact At.round ⟨j + 1, by omega⟩ (by simp only; omega) (Weak.of_drop [2,5,7,9,21,23,106,107,108,117,118,119] 3 (by simp) (by simp) (by simp [hq2]))
            · have e3 := e3 rfl
              have e6 := e6 rfl
              obtain ⟨hqC, hce⟩ := List.getElem?_eq_some_iff.1 e3
              have hqi : (q : Int) < C.length := by omega
              obtain ⟨a1, a2, a3, a4⟩ := want_yes e1 e2
              have hs : True := trivial
              repeat' first | (with_reducible first | refine q01 ?_ | refine q04 ?_ | refine q11 ?_ | refine q12 ?_ | refine q14 ?_) | (refine DT_regionM (id := 39) (nt := 180) 17 [0,1,2,4,5,6,7,8,9,10,12,14,15,16,17,18,20,21,22,23,25,26,27,35,47,51,52,53,54,67,68,69,70,81,82,83,84,85,92,93,94,95,106,107,108,109,117,118,119,120,167,168] mixed rfl (by kernel_rfl) ?_; simp -dsimp [hlj, hlj2, hwj, hyn, hy, a1, a2, a3, a4, hqC, hqi, e3, hce, hw9, hs]) | (with_reducible refine DT_regionE [0,1,2,4,5,6,7,8,9,10,12,14,15,16,17,18,20,21,22,23,25,26,27,35,47,51,52,53,54,67,68,69,70,81,82,83,84,85,92,93,94,95,106,107,108,109,117,118,119,120,167,168] ?_; simp -dsimp [hlj, hlj2, hwj, hyn, hy, a1, a2, a3, a4, hqC, hqi, e3, hce, hw9, hs]) | (refine DT_cond rfl (fun h => ?_) (fun h => ?_) <;> (try simp only [nrm] at h) <;> (try exact Bool.noConfusion h))
              all_goals try simp -dsimp [hlj, hlj2, hwj, hyn, hy, a1, a2, a3, a4, hqC, hqi, e3, hce, hw9, hs]
              all_goals try clear hs
              all_goals exact At.round ⟨j + 1, by omega⟩ (by simp only; omega) (Weak.of_drop [2,5,7,9,21,23,106,107,108,117,118,119] 3 (by simp) (by simp) (by simp [hq2, e6]))
          · obtain rfl : j = n.notes.length - (i + 1) := by omega
            have hE : (clTo n t [] (i + 1)).length = (clTo n t [] i ++ clRow n t [] i (i + 1 + (n.notes.length - (i + 1)))).length := by rw [hsu, show i + 1 + (n.notes.length - (i + 1)) = n.notes.length by omega]
            have hs : True := trivial
            repeat' first | (with_reducible first | refine q01 ?_ | refine q03 ?_ | refine q04 ?_ | refine q06 ?_ | refine q11 ?_ | refine q16 ?_) | (with_reducible refine DT_regionE [0,1,2,4,5,6,7,8,9,10,12,14,15,16,17,18,20,21,22,23,25,26,27,35,47,51,52,53,54,67,68,69,70,81,82,83,84,85,92,93,94,95,106,107,108,109,117,118,119,120,167,168] ?_; simp -dsimp [hlj, hwi, hs]) | (refine DT_cond rfl (fun h => ?_) (fun h => ?_) <;> (try simp only [nrm] at h) <;> (try exact Bool.noConfusion h))
            all_goals try simp -dsimp [hlj, hwi, hs]
            all_goals try clear hs
            all_goals exact At.round ⟨i + 1, by omega⟩ (by simp only; omega) (Weak.of_drop [2,5,7,9,21,106,107,108] 2 (by simp) (by simp) (by simp [hE]))
        · obtain rfl : i = n.notes.length := by omega
          rw [hCe]
          have hs : True := trivial
          repeat' first | (with_reducible first | refine q01 ?_ | refine q03 ?_ | refine q06 ?_ | refine q11 ?_ | refine q16 ?_ | refine q17 ?_) | (with_reducible refine At.fn_ret (by simp -dsimp [hli, hs]; exact rfl) ?_) | (with_reducible refine DT_regionE [0,1,2,4,5,6,7,8,9,10,12,14,15,16,17,18,20,21,22,23,25,26,27,35,47,51,52,53,54,67,68,69,70,81,82,83,84,85,92,93,94,95,106,107,108,109,117,118,119,120,167,168] ?_; simp -dsimp [hli, hs]) | (refine DT_cond rfl (fun h => ?_) (fun h => ?_) <;> (try simp only [nrm] at h) <;> (try exact Bool.noConfusion h))
          all_goals try simp -dsimp [hli, hs]
          all_goals try clear hs
end Go.Proofs
