/- Part 31 of the proofs: laws and walks that hold without conditions beyond those that each theorem names. -/
import Derived.Test.YtmfanojaldiejaaGreatDoorA23
import Derived.Test.YtmfanojaldiejaaGreatDoorA24
import Derived.Test.YtmfanojaldiejaaGreatDoorA26
import Derived.Test.YtmfanojaldiejaaGreatDoorA27
set_option linter.all false
set_option linter.deprecated false
namespace Go.Proofs
open Go Go.Ab
theorem lettersK_ext {n n' : Notes} {s s' : List Int} {m : Int} (hr : n'.reg = n.reg) (h : ∀ d, letF n' s' d m = letF n s d m) : lettersK n' s' m = lettersK n s m := by
  unfold lettersK
  rw [hr]
  exact List.map_congr_left fun d _ => h d
theorem selN_mem' {N : List Int} {s : Nat} {x : Int} : x ∈ selN N s N.length ↔ ∃ i : Nat, i < N.length ∧ s.testBit i = true ∧ N[i]? = some x := selN_mem (Nat.le_refl _)
theorem bits5 : ∀ s < 32, ∀ i < 5, ∀ j < 5, (s.testBit i = false → (s + 2 ^ i).testBit j = (s.testBit j || decide (j = i))) := by decide +kernel
theorem letsL_get {n : Notes} {m : Int} {O : List Int} {k P : Nat} (h : k < P) : (letsL n m O P)[k]? = some (lettersK n (selN O k O.length) m) := letsL_at h
theorem mat_settle {n : Notes} (hok : allOk n) (h5 : (openL n.notes).length ≤ 5) {i j : Nat} {x : Note} (hx : n.notes[i]? = some x) (ho : x.signed = 1) (hj : (isort (openL n.notes))[j]? = some x.number) (m : Int) :
    (matM (difB (letsL n m (isort (openL n.notes)) (2 ^ (isort (openL n.notes)).length))) (isort (openL n.notes)).length (2 ^ (isort (openL n.notes)).length)).testBit j = true ↔
      ∃ t : List Int, t.Sublist (isort (openL (setSg n.notes i 0))) ∧ lettersK ⟨n.reg, setSg n.notes i 2⟩ t m ≠ lettersK ⟨n.reg, setSg n.notes i 0⟩ t m := by
  have hOs := isort_strict (openL_nodup hok)
  have hO5 : (isort (openL n.notes)).length ≤ 5 := by rw [isort_len]; exact h5
  rw [open_list hok hx (v := 0) (by omega) (by omega)]
  generalize isort (openL n.notes) = O at *
  have hjl := lt_of_getElem? hj
  rw [mat_eq hO5 hjl]
  have hP : 2 ^ O.length ≤ 2 ^ 5 := Nat.pow_le_pow_right (by omega) hO5
  have hinj : ∀ k, O[k]? = some x.number → k = j := fun k hk => by
    have hkl := lt_of_getElem? hk
    rw [List.pairwise_iff_getElem] at hOs
    have e1 := (List.getElem?_eq_some_iff.1 hj).2
    have e2 := (List.getElem?_eq_some_iff.1 hk).2
    rcases Nat.lt_trichotomy k j with h | h | h
    · have := hOs k j hkl hjl h; omega
    · exact h
    · have := hOs j k hjl hkl h; omega
  -- a set without it, and the set with it
  have step : ∀ s, s < 2 ^ O.length → s.testBit j = false → s + 2 ^ j < 2 ^ O.length ∧ x.number ∉ selN O s O.length ∧ ∀ y, y ∈ selN O (s + 2 ^ j) O.length ↔ y ∈ selN O s O.length ∨ y = x.number := fun s hs hb => by
    refine ⟨?_, fun h => ?_, fun y => ?_⟩
    · rw [← (xor_all s (by omega) j (by omega)).1 hb]
      exact Nat.xor_lt_two_pow hs (Nat.pow_lt_pow_right (by omega) hjl)
    · obtain ⟨k, h1, h2, h3⟩ := selN_mem'.1 h
      rw [hinj k h3, hb] at h2; cases h2
    · rw [selN_mem', selN_mem']
      constructor
      · rintro ⟨k, h1, h2, h3⟩
        rw [bits5 s (by omega) j (by omega) k (by omega) hb, Bool.or_eq_true, decide_eq_true_eq] at h2
        rcases h2 with h2 | rfl
        · exact .inl ⟨k, h1, h2, h3⟩
        · rw [hj] at h3; exact .inr (Option.some.inj h3).symm
      · rintro (⟨k, h1, h2, h3⟩ | rfl)
        · exact ⟨k, h1, by rw [bits5 s (by omega) j (by omega) k (by omega) hb, h2]; rfl, h3⟩
        · exact ⟨j, hjl, by rw [bits5 s (by omega) j (by omega) j (by omega) hb]; simp, hj⟩
  have lets : ∀ s, s < 2 ^ O.length → s.testBit j = false → lettersK ⟨n.reg, setSg n.notes i 2⟩ (selN O s O.length) m = lettersK n (selN O (s + 2 ^ j) O.length) m ∧ lettersK ⟨n.reg, setSg n.notes i 0⟩ (selN O s O.length) m = lettersK n (selN O s O.length) m := fun s hs hb => by
    obtain ⟨_, h2, h3⟩ := step s hs hb
    exact ⟨lettersK_ext rfl fun d => letF_yes hok hx h3 d m, lettersK_ext rfl fun d => letF_no hx ho h2 d m⟩
  rw [matR, List.any_eq_true]
  constructor
  · rintro ⟨s, hs, hd⟩
    rw [List.mem_range] at hs
    simp only [Bool.and_eq_true, Bool.not_eq_true', decide_eq_true_eq] at hd
    obtain ⟨hb, hd⟩ := hd
    obtain ⟨h1, h2, h3⟩ := step s hs hb
    obtain ⟨e1, e2⟩ := lets s hs hb
    refine ⟨selN O s O.length, ?_, fun e => hd ?_⟩
    · have h4 : (selN O s O.length).Sublist O := by
        have := selN_sub O s O.length (Nat.le_refl _)
        rwa [List.take_length] at this
      have h5 := h4.filter fun a => decide (a ≠ x.number)
      rwa [List.filter_eq_self.2 fun a h => by simp; rintro rfl; exact h2 h] at h5
    · rw [letsL_get hs, letsL_get h1, ← e1, ← e2, e]
  · rintro ⟨t, ht, hne⟩
    have hts : t.Sublist O := ht.trans List.filter_sublist
    have hxt : x.number ∉ t := fun h => by
      have := ht.subset h
      rw [List.mem_filter] at this
      simpa using this.2
    have := (truths_mem hOs).2 hts
    unfold truthsL trTo at this
    obtain ⟨s, hs, rfl⟩ := List.mem_map.1 this
    rw [List.mem_range] at hs
    have hb : s.testBit j = false := by
      cases h : s.testBit j
      · rfl
      · exact absurd (selN_mem'.2 ⟨j, hjl, h, hj⟩) hxt
    obtain ⟨h1, _, _⟩ := step s hs hb
    obtain ⟨e1, e2⟩ := lets s hs hb
    refine ⟨s, by simpa using hs, ?_⟩
    simp only [Bool.and_eq_true, Bool.not_eq_true', decide_eq_true_eq]
    refine ⟨hb, fun e => hne ?_⟩
    rw [letsL_get hs, letsL_get h1] at e
    rw [e1, e2]; exact (Option.some.inj e).symm
theorem sureTo_congr {n n' : Notes} {m : Int} {O : List Int} : ∀ k, (∀ t ∈ trTo O k, lettersK n t m = lettersK n' t m) → lettersK n [] m = lettersK n' [] m → sureTo n m O k = sureTo n' m O k
  | 0, _, h => h
  | k + 1, h, h0 => by
    rw [sureTo_succ, sureTo_succ, sureTo_congr k (fun t ht => h t (by rw [trTo_succ]; simp [ht])) h0, h _ (by rw [trTo_succ]; simp)]
end Go.Proofs
namespace Go.Proofs
open Go Go.Ab
theorem frc_step {n : Notes} {s w : List Int} (k : Nat) (h9 : k < 999) (hk : ¬ ((k : Int) + 1) ∈ marksP n.notes) : frcL s w ((k : Int) + 1) n.notes = frcL s w k n.notes := by
  refine frcL_same n.notes fun x hx => ?_
  have h1 : (k : Int) + 1 ≠ x.frm := fun e => hk (marks_mem.2 ⟨.inr ⟨x, hx, .inl e⟩, by omega⟩)
  have h2 : (k : Int) + 1 ≠ x.to + 1 := fun e => hk (marks_mem.2 ⟨.inr ⟨x, hx, .inr e⟩, by omega⟩)
  unfold frcB
  have e1 : decide (x.frm ≤ (k : Int) + 1) = decide (x.frm ≤ (k : Int)) := by rw [decide_eq_decide]; omega
  have e2 : decide ((k : Int) + 1 ≤ x.to) = decide ((k : Int) ≤ x.to) := by rw [decide_eq_decide]; omega
  rw [e1, e2]
theorem frc_mark {n : Notes} (s w : List Int) : ∀ k : Nat, k < 999 → ∃ m ∈ marksP n.notes, frcL s w ((k : Int) + 1) n.notes = frcL s w m n.notes
  | 0, _ => ⟨1, marks_mem.2 ⟨.inl rfl, by omega⟩, rfl⟩
  | k + 1, h => by
    by_cases hm : ((k + 1 : Nat) : Int) + 1 ∈ marksP n.notes
    · exact ⟨_, hm, rfl⟩
    · obtain ⟨m, h1, h2⟩ := frc_mark (n := n) s w k (by omega)
      refine ⟨m, h1, ?_⟩
      rw [frc_step (k + 1) h hm]
      exact h2
theorem both_any {n : Notes} {s w M : List Int} (h1 : ∀ m ∈ marksP n.notes, m ∈ M) (h2 : ∀ m ∈ M, 1 ≤ m ∧ m ≤ 999) (a b : Nat) : bothB n s w a b = M.any fun m => frcAt n s w m a && frcAt n s w m b := by
  unfold bothB
  rw [Bool.eq_iff_iff, List.any_eq_true, List.any_eq_true]
  constructor
  · rintro ⟨m, hm, h⟩; exact ⟨m, h1 m hm, h⟩
  · rintro ⟨m, hm, h⟩
    obtain ⟨h3, h4⟩ := h2 m hm
    obtain ⟨m', h5, h6⟩ := frc_mark (n := n) s w (m - 1).toNat (by omega)
    rw [show ((m - 1).toNat : Int) + 1 = m by omega] at h6
    refine ⟨m', h5, ?_⟩
    unfold frcAt at h ⊢
    rw [← h6]; exact h
def drawL (l : List Note) (w : List Int) : List Note := l.map fun x => if x.number ∈ w then sgn x 0 else x
theorem strip_draw (l : List Note) (w : List Int) : strip (drawL l w) = strip l := by
  simp only [strip, drawL, List.map_map]
  refine List.map_congr_left fun x _ => ?_
  simp only [Function.comp_apply]
  split <;> rfl
theorem drawL_at {l : List Note} {w : List Int} {j : Nat} {y : Note} (h : (drawL l w)[j]? = some y) : ∃ x, l[j]? = some x ∧ y = if x.number ∈ w then sgn x 0 else x := by
  simp only [drawL, List.getElem?_map, Option.map_eq_some_iff] at h
  obtain ⟨x, h1, h2⟩ := h
  exact ⟨x, h1, h2.symm⟩
theorem frc_draw (n : Notes) (s w : List Int) (m : Int) : frcL (s.filter fun a => decide (a ∉ w)) [] m (drawL n.notes w) = frcL s w m n.notes := by
  refine frcL_ext (strip_draw _ _) fun j y x hy hx => ?_
  obtain ⟨z, h1, h2⟩ := drawL_at hy
  rw [hx] at h1; cases h1
  by_cases hw : x.number ∈ w
  · rw [if_pos hw] at h2
    subst h2
    simp [frcB, sgn, hw]
  · rw [if_neg hw] at h2
    subst h2
    simp [frcB, hw]
theorem rawM_strip (l : List Note) : rawM (strip l) = rawM l := by
  simp only [rawM, strip, List.flatMap_map]; rfl
theorem marks_draw (l : List Note) (w : List Int) : marksP (drawL l w) = marksP l := by
  unfold marksP; rw [← rawM_strip, strip_draw, rawM_strip]
theorem numAt_strip (l : List Note) (i : Nat) : numAt (strip l) i = numAt l i := by
  unfold numAt; rw [strip_at]; cases l[i]? <;> rfl
theorem clOk_draw (n : Notes) (s w : List Int) (a b : Nat) : clOk ⟨n.reg, drawL n.notes w⟩ (s.filter fun a => decide (a ∉ w)) [] a b = clOk n s w a b := by
  have hb : bothB ⟨n.reg, drawL n.notes w⟩ (s.filter fun a => decide (a ∉ w)) [] a b = bothB n s w a b := by
    unfold bothB frcAt
    simp only [marks_draw, frc_draw]
  unfold clOk
  rw [hb]
  have e : ∀ j : Nat, (drawL n.notes w)[j]? = (n.notes[j]?).map fun x => if x.number ∈ w then sgn x 0 else x := fun j => by simp only [drawL, List.getElem?_map]
  dsimp only
  simp only [e]
  cases n.notes[a]? with
  | none => rfl
  | some x => cases n.notes[b]? with
    | none => rfl
    | some y =>
      have h1 : ∀ z : Note, (if z.number ∈ w then sgn z 0 else z).drawing = z.drawing := fun z => by split <;> rfl
      have h2 : ∀ z : Note, (if z.number ∈ w then sgn z 0 else z).letter = z.letter := fun z => by split <;> rfl
      simp only [Option.map_some, h1, h2]
theorem clash_draw (n : Notes) (s w : List Int) : clashL ⟨n.reg, drawL n.notes w⟩ (s.filter fun a => decide (a ∉ w)) [] = clashL n s w := by
  have hl : (drawL n.notes w).length = n.notes.length := by simp [drawL]
  have hn : ∀ j, numAt (drawL n.notes w) j = numAt n.notes j := fun j => by rw [← numAt_strip, strip_draw, numAt_strip]
  unfold clashL clTo clRow
  simp only [hl, clOk_draw, hn]
end Go.Proofs
namespace Go.Proofs
open Go Go.Ab
theorem frcL_none {s w : List Int} {m : Int} : ∀ (l : List Note), (∀ x ∈ l, x.number ∈ w) → frcL s w m l = List.replicate l.length false
  | [], _ => rfl
  | x :: l, h => by
    have ih := frcL_none (s := s) (m := m) l fun y hy => h y (by simp [hy])
    have hx := h x (by simp)
    simp only [frcL, ih, List.length_cons, List.replicate_succ]
    simp [frcB, hx]
theorem clN_all {n : Notes} {s w : List Int} (h : ∀ x ∈ n.notes, x.number ∈ w) : clN n s w = true := by
  have hf : ∀ m a, frcAt n s w m a = false := fun m a => by
    unfold frcAt
    rw [frcL_none _ h, List.getElem?_replicate]
    split <;> rfl
  have hb : ∀ a b, clOk n s w a b = false := fun a b => by
    have : bothB n s w a b = false := by unfold bothB; simp [hf]
    simp [clOk, this]
  have e : clashL n s w = [] := by
    unfold clashL clTo
    rw [List.flatMap_eq_nil_iff]
    intro a _
    unfold clRow
    simp [hb]
  unfold clN; rw [e]; rfl
theorem wS_spec {n : Notes} (hok : allOk n) (s : List Int) : (wS n s).Sublist (isort (n.notes.map fun x => x.number)) ∧ clN n s (wS n s) = true ∧ ∀ z : List Int, z.Sublist (isort (n.notes.map fun x => x.number)) → clN n s z = true → befL z (wS n s) = false := by
  have hA := isort_strict (nums_nodup hok)
  have hl : (isort (n.notes.map fun x => x.number)).length = n.notes.length := by rw [isort_len, List.length_map]
  cases h : sizesL (clN n s) (isort (n.notes.map fun x => x.number)) (n.notes.length + 1) with
  | none =>
    have h1 := sizesL_none _ h (isort (n.notes.map fun x => x.number)) (List.Sublist.refl _) (by omega)
    rw [clN_all fun x hx => isort_mem.2 (List.mem_map.2 ⟨x, hx, rfl⟩)] at h1
    cases h1
  | some x =>
    have h1 := sizesL_some hA _ _ h
    have e : wS n s = x := by unfold wS; rw [h]; rfl
    rw [e]; exact h1
theorem wS_rising {n : Notes} (hok : allOk n) (s : List Int) : (wS n s).Pairwise (· < ·) := (isort_strict (nums_nodup hok)).sublist (wS_spec hok s).1
theorem wS_nil {n : Notes} (hok : allOk n) (s : List Int) : wS n s = [] ↔ (clashL n s []).length = 0 := by
  obtain ⟨_, h2, h3⟩ := wS_spec hok s
  constructor
  · intro h
    rw [h] at h2
    simpa [clN] using h2
  · intro h
    have h4 := h3 [] (by simp) (by simp [clN, h])
    unfold befL at h4
    split at h4
    · rename_i e
      exact List.eq_nil_of_length_eq_zero e.symm
    · rw [decide_eq_false_iff_not] at h4
      exact List.eq_nil_of_length_eq_zero (by rw [List.length_nil] at h4; omega)
end Go.Proofs
namespace Go.Proofs
open Go Go.Ab
theorem snoc_get {α : Type} {D : List α} {a y : α} {i : Nat} (h : (D ++ [a])[i]? = some y) : (i < D.length ∧ D[i]? = some y) ∨ (i = D.length ∧ y = a) := getElem?_snoc h
structure SegOk (f : Int → Int) (k : Int) (L : List Str) : Prop where
  last : ∃ y, L.getLast? = some y ∧ y.to = k
  first : ∀ y, L[0]? = some y → y.frm = 1
  each : ∀ (i : Nat) (y : Str), L[i]? = some y → 1 ≤ y.frm ∧ y.frm ≤ y.to ∧ y.to ≤ k ∧ ∀ m, y.frm ≤ m → m ≤ y.to → f m = y.letter
  next : ∀ (i : Nat) (y z : Str), L[i]? = some y → L[i + 1]? = some z → y.to + 1 = z.frm ∧ y.letter ≠ z.letter
theorem strR_ok (f : Int → Int) : ∀ k : Nat, SegOk f ((k : Int) + 1) (strR f (k + 1))
  | 0 => by
    have e : strR f 1 = [⟨1, 1, f 1⟩] := rfl
    rw [e]
    refine ⟨⟨_, rfl, rfl⟩, fun y h => by cases h; rfl, fun i y h => ?_, fun i y z h1 h2 => ?_⟩
    · cases i with
      | zero => cases h; exact ⟨Int.le_refl _, Int.le_refl _, by simp, fun m h1 h2 => by rw [show m = 1 by simp at h1 h2; omega]⟩
      | succ i => simp at h
    · simp at h2
  | k + 1 => by
    obtain ⟨⟨y, hy, hyt⟩, hf, he, hn⟩ := strR_ok f k
    have e : strR f (k + 1 + 1) = stepR (strR f (k + 1)) (((k + 1 : Nat) : Int) + 1) (f (((k + 1 : Nat) : Int) + 1)) := rfl
    rw [e]
    generalize strR f (k + 1) = L at *
    have hL : L = L.dropLast ++ [y] := by
      rw [List.getLast?_eq_some_iff] at hy
      obtain ⟨D, rfl⟩ := hy
      simp
    generalize L.dropLast = D at hL
    subst hL
    have hlast := he D.length y (by simp)
    unfold stepR
    rw [hy]
    dsimp only
    split
    · rename_i hc
      rw [List.dropLast_concat]
      refine ⟨⟨_, List.getLast?_concat, rfl⟩, fun z hz => ?_, fun i z hz => ?_, fun i z z' hz hz' => ?_⟩
      · rcases snoc_get hz with ⟨h1, h2⟩ | ⟨h1, rfl⟩
        · exact hf z (by rw [List.getElem?_append_left h1]; exact h2)
        · exact hf y (by rw [List.getElem?_append_right (by omega)]; simp [← h1])
      · rcases snoc_get hz with ⟨h1, h2⟩ | ⟨h1, rfl⟩
        · obtain ⟨a1, a2, a3, a4⟩ := he i z (by rw [List.getElem?_append_left h1]; exact h2)
          exact ⟨a1, a2, by simp at a3 ⊢; omega, a4⟩
        · obtain ⟨a1, a2, a3, a4⟩ := hlast
          refine ⟨a1, by simp at a2 a3 ⊢; omega, by simp, fun m h3 h4 => ?_⟩
          by_cases e2 : m ≤ y.to
          · exact a4 m h3 e2
          · have : m = ((k + 1 : Nat) : Int) + 1 := by simp at h4 hyt ⊢; omega
            rw [this]; exact hc.symm
      · rcases snoc_get hz with ⟨h1, h2⟩ | ⟨h1, rfl⟩
        · rcases snoc_get hz' with ⟨h3, h4⟩ | ⟨h3, rfl⟩
          · exact hn i z z' (by rw [List.getElem?_append_left h1]; exact h2) (by rw [List.getElem?_append_left h3]; exact h4)
          · exact hn i z y (by rw [List.getElem?_append_left h1]; exact h2) (by rw [List.getElem?_append_right (by omega)]; simp [h3])
        · have := lt_of_getElem? hz'
          simp at this; omega
    · rename_i hc
      refine ⟨⟨_, List.getLast?_concat, rfl⟩, fun z hz => ?_, fun i z hz => ?_, fun i z z' hz hz' => ?_⟩
      · rcases snoc_get hz with ⟨h1, h2⟩ | ⟨h1, _⟩
        · exact hf z h2
        · simp at h1
      · rcases snoc_get hz with ⟨h1, h2⟩ | ⟨h1, rfl⟩
        · obtain ⟨a1, a2, a3, a4⟩ := he i z h2
          exact ⟨a1, a2, by simp at a3 ⊢; omega, a4⟩
        · exact ⟨by simp; omega, by simp, by simp, fun m h3 h4 => by
            have : m = ((k + 1 : Nat) : Int) + 1 := by simp at h3 h4 ⊢; omega
            rw [this]⟩
      · rcases snoc_get hz with ⟨h1, h2⟩ | ⟨h1, rfl⟩
        · rcases snoc_get hz' with ⟨h3, h4⟩ | ⟨h3, rfl⟩
          · exact hn i z z' h2 h4
          · have hi : i = D.length := by simp at h3; omega
            subst hi
            rw [List.getElem?_append_right (by omega)] at h2
            simp at h2
            subst h2
            exact ⟨by simp at hyt ⊢; omega, hc⟩
        · have := lt_of_getElem? hz'
          simp at this h1; omega
end Go.Proofs
namespace Go.Ab
open Go
def mkey (m : List (Int × Int)) (n : Int) : Bool := match m with
  | [] => false
  | p :: r => if p.1 = n then true else mkey r n
@[simp] theorem mhas_M (m : List (Int × Int)) (n : Int) : mhas [.int .i64 n] (encM m) = mkey m n := by
  induction m with
  | nil => rfl
  | cons p r ih =>
    have e : encM (p :: r) = (kI p.1, [.im (rI p.2)]) :: encM r := rfl
    rw [e]
    simp only [mhas, mfind, mkey, beqs_k, decide_eq_true_eq] at ih ⊢
    split
    · rfl
    · exact ih
theorem mkey_put (n k v : Int) : ∀ m, mkey (mput n v m) k = (decide (n = k) || mkey m k)
  | [] => by
    simp only [mput, mkey]
    by_cases h : n = k <;> simp [h]
  | p :: r => by
    have ih := mkey_put n k v r
    simp only [mput]
    split
    · rename_i h
      simp only [mkey]
      by_cases h1 : n = k
      · simp [h1]
      · have : ¬ p.1 = k := by omega
        simp [h1, this]
    · rename_i h
      simp only [mkey, ih]
      by_cases h1 : p.1 = k
      · simp [h1]
      · simp [h1]
end Go.Ab
namespace Go.Proofs
open Go Go.Ab
set_option linter.unusedSimpArgs false
variable {G : Nat → Option (List IC)}
def FstOk (m : List (Int × Int)) (L : List Str) : Prop := ∀ lt, mkey m lt = (L.any fun x => decide (x.letter = lt)) ∧ mlook m lt = firstV L lt
theorem FstOk.nil : FstOk [] [] := fun lt => ⟨rfl, rfl⟩
theorem firstV_snoc {L : List Str} {y : Str} {lt : Int} : firstV (L ++ [y]) lt = if (L.any fun x => decide (x.letter = lt)) = true then firstV L lt else if y.letter = lt then y.frm else 0 := by
  unfold firstV
  rw [List.find?_append]
  split
  · rename_i x h
    cases hf : L.find? (fun x => decide (x.letter = lt)) with
    | some z =>
      rw [hf] at h
      simp at h
      subst h
      rw [if_pos (List.any_eq_true.2 ⟨z, List.mem_of_find?_eq_some hf, List.find?_some hf⟩)]
    | none =>
      rw [hf] at h
      rw [if_neg (by rw [List.any_eq_true]; rintro ⟨x, h1, h2⟩; exact (List.find?_eq_none.1 hf) x h1 h2)]
      by_cases e : y.letter = lt
      · simp [e] at h
        subst h
        rw [if_pos e]
      · simp [e] at h
  · rename_i h
    rw [Option.or_eq_none_iff] at h
    rw [if_neg (by rw [List.any_eq_true]; rintro ⟨x, h1, h2⟩; exact (List.find?_eq_none.1 h.1) x h1 h2)]
    have := List.find?_eq_none.1 h.2 y (by simp)
    rw [if_neg (by simpa using this)]
theorem FstOk.old {m : List (Int × Int)} {L : List Str} {y : Str} (h : FstOk m L) (hk : mkey m y.letter = true) : FstOk m (L ++ [y]) := fun lt => by
  obtain ⟨h1, h2⟩ := h lt
  rw [firstV_snoc, List.any_append]
  by_cases e : y.letter = lt
  · subst e
    rw [hk] at h1
    rw [← h1, if_pos rfl, hk]; exact ⟨rfl, h2⟩
  · refine ⟨by rw [h1]; simp [e], ?_⟩
    rw [h2]
    split
    · rfl
    · rename_i hn
      rw [firstV]
      split
      · rename_i x hx
        exact absurd (List.any_eq_true.2 ⟨x, List.mem_of_find?_eq_some hx, List.find?_some hx⟩) hn
      · rfl
theorem FstOk.new {m : List (Int × Int)} {L : List Str} {y : Str} (h : FstOk m L) (hk : mkey m y.letter = false) : FstOk (mput y.letter y.frm m) (L ++ [y]) := fun lt => by
  obtain ⟨h1, h2⟩ := h lt
  rw [firstV_snoc, List.any_append, mkey_put, mlook_put]
  by_cases e : y.letter = lt
  · subst e
    rw [hk] at h1
    rw [← h1]; simp
  · refine ⟨by rw [h1]; simp [e, Bool.or_comm], ?_⟩
    rw [if_neg (Ne.symm e), h2, if_neg e]
    split
    · rfl
    · rename_i hn
      rw [firstV]
      split
      · rename_i x hx
        exact absurd (List.any_eq_true.2 ⟨x, List.mem_of_find?_eq_some hx, List.find?_some hx⟩) hn
      · rfl
set_option maxRecDepth 100000 in
set_option maxHeartbeats 8000000 in
theorem noteStretched_c (n : Notes) (b d m : Nat) (hG : sheetG G) (hN : noteG G) (hS : SortOk G) (hk : NKind n) (hb : b < 256) (hd : d < 256) (hm : m < 65536) (objs : List DObj) : DCall Tryz.prog G 6 [notesv n, u8V (b : Int), u8V (d : Int), u16v (m : Int)] objs (fun rr objs' => rr = bv true ∧ objs' = objs) := by
  refine DCall.frame ?_ (by simp) (by simp) objs
  refine DCall_intro Tryz.func6 rfl Tryz.ntmps6 (by simp) rfl ?_
  try simp only [notesv]
  have c1 := alive_c hG hN hS
  have c2 := ready_c (G := G) n hk
  cases hq : readyB n
  · rw [hq] at c2
    have hs : True := trivial
    repeat' first | (with_reducible first | refine q01 ?_ | refine q02 ?_ | refine q11 ?_ | refine q17 ?_) | (with_reducible refine At.fn_ret (by simp -dsimp [hs]; exact rfl) ?_) | (refine CallE.pure (c1) ?_; try simp -dsimp [hs]) | (refine CallE.pure (c2) ?_; try simp -dsimp [hs]) | (with_reducible refine DT_regionE [0,1,2,3,4,8,9,10,11,12,13,14,15,16,17,18,19,20,22,23,24,25,26,27,35,96,98,99,100,101,157,166,173,174,210] ?_; simp -dsimp [hs]) | (refine DT_cond rfl (fun h => ?_) (fun h => ?_) <;> (try simp only [nrm] at h) <;> (try exact Bool.noConfusion h))
    all_goals try simp -dsimp [hs]
    all_goals try clear hs
  · have R := readyRF hk hq
    rw [hq] at c2
    have c3 := truthOf_c (G := G) n b R.s R.ok (by rw [← isortL]; exact R.o5) hb
    have c4 := machineOf_c (G := G) m hm
    have c5 := drawingOf_c (G := G) n.reg d (by have := R.s.1.1; omega) R.ne hd
    rw [← truthAt'] at c3
    have hsub := R.sub b
    have hsl := R.len b
    generalize truthAt' n b = t at *
    have hM : 1 ≤ ((m % 999 + 1 : Nat) : Int) ∧ ((m % 999 + 1 : Nat) : Int) ≤ 999 := by omega
    generalize ((m % 999 + 1 : Nat) : Int) = M at *
    have hat : d % (nums n.reg).length < (nums n.reg).length := Nat.mod_lt _ (by have := R.ne; cases h : nums n.reg <;> simp_all)
    generalize d % (nums n.reg).length = a at *
    have hD : (nums n.reg)[a]? = some ((nums n.reg).getD a 0) := by simp [hat]
    have hDm := List.mem_of_getElem? hD
    generalize (nums n.reg).getD a 0 = D at *
    have c6 := nStretches_c (G := G) n t D hG hN hS R.s hsl
    have hDr := R.drawn hsub (m := 1) (by omega) (by omega) hDm
    rw [hDr, if_pos rfl] at c6
    have c7 := nLetters_c (G := G) n t M hG hN hS R.s hsl
    rw [R.asked hsub hM.1 hM.2, if_pos rfl, letters_eq] at c7
    have c8 := fun k => nFirst_c (G := G) n t D k hG hN hS R.s hsl
    have hSL : strL n t D = strP (letF n t D) (marksP n.notes) := by unfold strL; rw [if_pos hDr]
    have hfe : ∀ k, firE n t D k = firstE (strP (letF n t D) (marksP n.notes)) k := fun k => by unfold firE; rw [if_neg (by simp [hDr]), hSL]
    have hfv : ∀ k, firV n t D k = firstV (strP (letF n t D) (marksP n.notes)) k := fun k => by unfold firV; rw [if_neg (by simp [hDr]), hSL]
    simp only [hfe, hfv] at c8
    have hLl := strL_len n t D
    rw [hSL] at hLl
    have hrun := runs_eq R.ok t D 999 rfl
    have hseg := strR_ok (letF n t D) 998
    rw [show (998 : Nat) + 1 = 999 from rfl, ← hrun] at hseg
    have hXa := lettersK_at (n := n) (t := t) (m := M) hD
    have hXl := lettersK_len n t M
    have hl12 := R.l
    generalize lettersK n t M = X at *
    generalize hf : letF n t D = f at *
    have hXa : X[a]? = some (f M) := by rw [hXa, ← hf]
    clear hrun hSL hfe hfv hf
    generalize strP f (marksP n.notes) = L at *
    obtain ⟨⟨yl, hyl, hylt⟩, hs1, hs2, hs3⟩ := hseg
    have hL0 : L ≠ [] := fun e => by rw [e] at hyl; cases hyl
    have hL1 : 0 < L.length := List.length_pos_iff.2 hL0
    have hyl2 : L[L.length - 1]? = some yl := by rw [← List.getLast?_eq_getElem?]; exact hyl
    have hyl3 : L[L.length - 1] = yl := (List.getElem?_eq_some_iff.1 hyl2).2
    have hy0 : L[0]? = some L[0] := List.getElem?_eq_getElem hL1
    have hs1 := hs1 _ hy0
    have hs2' := hs2
    generalize hy0e : L[0] = y0 at *
    have hwl : IntKind.i64.wrap ((L.length : Int) - 1) = ((L.length - 1 : Nat) : Int) := by rw [show (L.length : Int) - 1 = ((L.length - 1 : Nat) : Int) by omega]; exact i64w (by omega) (by omega)
    have hll : L.length - 1 < L.length := by omega
    have g1 : ¬ X.length ≤ a := by omega
    have g2 : ¬ (X.length : Int) ≤ a := by omega
    have g3 : a < X.length := by omega
    have g4 : X[a] = f M := (List.getElem?_eq_some_iff.1 hXa).2
    have hylt : yl.to = 999 := by simpa using hylt
    have hLn : ¬ L.length = 0 := by omega
    clear hG hN hS hsub R hDm hD hDr
    have hs : True := trivial
    repeat' first | (with_reducible first | refine q01 ?_ | refine q11 ?_ | refine q12 ?_ | refine q14 ?_) | (refine CallE.pure (c1) ?_; try simp -dsimp [hL0, hL1, hLn, hyl2, hyl3, hy0, hy0e, hs1, hwl, hll, g1, g2, hylt, hs]) | (refine CallE.pure (c2) ?_; try simp -dsimp [hL0, hL1, hLn, hyl2, hyl3, hy0, hy0e, hs1, hwl, hll, g1, g2, hylt, hs]) | (refine CallE.pure (c3) ?_; try simp -dsimp [hL0, hL1, hLn, hyl2, hyl3, hy0, hy0e, hs1, hwl, hll, g1, g2, hylt, hs]) | (refine CallE.pure (c4) ?_; try simp -dsimp [hL0, hL1, hLn, hyl2, hyl3, hy0, hy0e, hs1, hwl, hll, g1, g2, hylt, hs]) | (refine CallE.pure (c5) ?_; try simp -dsimp [hL0, hL1, hLn, hyl2, hyl3, hy0, hy0e, hs1, hwl, hll, g1, g2, hylt, hs]) | (refine CallE.pure (c6) ?_; try simp -dsimp [hL0, hL1, hLn, hyl2, hyl3, hy0, hy0e, hs1, hwl, hll, g1, g2, hylt, hs]) | (refine CallE.pure (c7) ?_; try simp -dsimp [hL0, hL1, hLn, hyl2, hyl3, hy0, hy0e, hs1, hwl, hll, g1, g2, hylt, hs]) | (with_reducible refine DT_regionE [0,1,2,3,4,8,9,10,11,12,13,14,15,16,17,18,19,20,22,23,24,25,26,27,35,96,98,99,100,101,157,166,173,174,210] ?_; simp -dsimp [hL0, hL1, hLn, hyl2, hyl3, hy0, hy0e, hs1, hwl, hll, g1, g2, hylt, hs]) | (refine DT_cond rfl (fun h => ?_) (fun h => ?_) <;> (try simp only [nrm] at h) <;> (try exact Bool.noConfusion h))
    all_goals try simp -dsimp [hL0, hL1, hLn, hyl2, hyl3, hy0, hy0e, hs1, hwl, hll, g1, g2, hylt, hs]
    all_goals try clear hs
    refine DT_loop (ι := { p : Nat × List (Int × Int) // p.1 ≤ L.length ∧ FstOk p.2 (L.take p.1) }) (fun p => ⟨213, [(4, .one (.ptr 0 0)), (9, bv true), (10, isv t), (11, iv M), (12, iv D), (13, iv (a : Int)), (14, strv L), (16, isv X), (18, .one (.map 1)), (98, strv L), (99, iv (L.length : Int)), (100, iv (p.1.1 : Int))], [.row ((encNotes n).map .im), .map [.int .i64] (encM p.1.2)]⟩) (fun p => L.length - p.1.1) ⟨(0, []), by simp, FstOk.nil⟩ (Weak.of_keep [4,9,10,11,12,13,14,16,18,98,99,100] (by simp [encM])) ?_
    clear hyl hyl2 hyl3 hs1 hwl hll hylt hy0 hy0e
    rintro ⟨⟨k, mp⟩, hk, hmp⟩
    simp only at hk hmp
    simp only [iv, isv, bv, strv]
    by_cases hlt : k < L.length
    · have hw : IntKind.i64.wrap ((k : Int) + 1) = ((k + 1 : Nat) : Int) := i64w (by omega) (by omega)
      have hy : L[k]? = some L[k] := List.getElem?_eq_getElem hlt
      have htk : L.take (k + 1) = L.take k ++ [L[k]] := List.take_succ_eq_append_getElem hlt
      obtain ⟨b1, b2, b3, b4⟩ := hs2' k _ hy
      have hnx := hs3 (k - 1)
      generalize hye : L[k] = y at *
      have hin : M ≥ y.frm → M ≤ y.to → f M = y.letter := fun h1 h2 => b4 M h1 h2
      have b5 : ¬ y.to < y.frm := by omega
      have hnew : mkey mp y.letter = false → FstOk (mput y.letter y.frm mp) (L.take (k + 1)) := fun h => by rw [htk]; exact hmp.new h
      have hold : mkey mp y.letter = true → FstOk mp (L.take (k + 1)) := fun h => by rw [htk]; exact hmp.old h
      have hw1 : IntKind.i64.wrap 1 = 1 := i64w (by omega) (by omega)
      have hs : True := trivial
      have cases3 : (¬ y.frm ≤ M ∧ True ∧ True) ∨ (y.frm ≤ M ∧ ¬ M ≤ y.to ∧ True) ∨ (y.frm ≤ M ∧ M ≤ y.to ∧ f M = y.letter) := by
        by_cases e1 : y.frm ≤ M
        · by_cases e2 : M ≤ y.to
          · exact .inr (.inr ⟨e1, e2, hin e1 e2⟩)
          · exact .inr (.inl ⟨e1, e2, trivial⟩)
        · exact .inl ⟨e1, trivial, trivial⟩
      clear hin b4 hs2 hs2' hs3
      cases hkey : mkey mp y.letter
      · have hnew := hnew hkey
        clear hold
        cases k with
        | zero =>
          rcases cases3 with ⟨e1, e2, e3⟩ | ⟨e1, e2, e3⟩ | ⟨e1, e2, e3⟩
          have hs : True := trivial
          repeat' first | (with_reducible first | refine q01 ?_ | refine q04 ?_ | refine q11 ?_ | refine q12 ?_ | refine q14 ?_) | (refine DT_regionM (id := 14) (nt := 213) 53 [0,1,2,3,4,8,9,10,11,12,13,14,15,16,17,18,19,20,22,23,24,25,26,27,35,96,98,99,100,101,157,166,173,174,210] mixed rfl (by kernel_rfl) ?_; simp -dsimp [hlt, hw, hy, hye, hkey, b5, e1, e2, e3, g3, g4, hXa, hs]) | (with_reducible refine DT_regionE [0,1,2,3,4,8,9,10,11,12,13,14,15,16,17,18,19,20,22,23,24,25,26,27,35,96,98,99,100,101,157,166,173,174,210] ?_; simp -dsimp [hlt, hw, hy, hye, hkey, b5, e1, e2, e3, g3, g4, hXa, hs]) | (refine DT_cond rfl (fun h => ?_) (fun h => ?_) <;> (try simp only [nrm] at h) <;> (try exact Bool.noConfusion h))
          all_goals try simp -dsimp [hlt, hw, hy, hye, hkey, b5, e1, e2, e3, g3, g4, hXa, hs]
          all_goals try clear hs
          all_goals exact At.round ⟨(0 + 1, mput y.letter y.frm mp), by omega, hnew⟩ (by simp only; omega) (Weak.of_drop [4,9,10,11,12,13,14,16,18,98,99,100] 2 (by simp) (by simp) (by simp [hw1]))
        | succ k =>
          have hk2 : k < L.length := by omega
          have hz : L[k]? = some L[k] := List.getElem?_eq_getElem hk2
          obtain ⟨z1, z2⟩ := hnx L[k] y hz hy
          generalize hze : L[k] = z at *
          have hw5 : IntKind.i64.wrap (((k + 1 : Nat) : Int) - 1) = (k : Int) := by rw [show ((k + 1 : Nat) : Int) - 1 = k by omega]; exact i64w (by omega) (by omega)
          have hw6 : IntKind.i64.wrap (z.to + 1) = y.frm := by rw [z1]; exact i64w (by omega) (by omega)
          have hk0 : (0 : Int) < (k : Int) + 1 := by omega
          have hk9 : (0 : Int) ≤ (k : Int) + 1 := by omega
          have hlti : (k : Int) + 1 < L.length := by omega
          have hw7 := hw5
          simp at hw7
          have hw8 := hw
          simp at hw8
          rcases cases3 with ⟨e1, e2, e3⟩ | ⟨e1, e2, e3⟩ | ⟨e1, e2, e3⟩
          have hs : True := trivial
          repeat' first | (with_reducible first | refine q01 ?_ | refine q04 ?_ | refine q11 ?_ | refine q12 ?_ | refine q14 ?_) | (refine DT_regionM (id := 14) (nt := 213) 53 [0,1,2,3,4,8,9,10,11,12,13,14,15,16,17,18,19,20,22,23,24,25,26,27,35,96,98,99,100,101,157,166,173,174,210] mixed rfl (by kernel_rfl) ?_; simp -dsimp [hlt, hw, hw8, hy, hye, hkey, b5, e1, e2, e3, g3, g4, hXa, hk2, hz, hze, hw5, hw6, hw7, hk0, hk9, hlti, z2, hs]) | (with_reducible refine DT_regionE [0,1,2,3,4,8,9,10,11,12,13,14,15,16,17,18,19,20,22,23,24,25,26,27,35,96,98,99,100,101,157,166,173,174,210] ?_; simp -dsimp [hlt, hw, hw8, hy, hye, hkey, b5, e1, e2, e3, g3, g4, hXa, hk2, hz, hze, hw5, hw6, hw7, hk0, hk9, hlti, z2, hs]) | (refine DT_cond rfl (fun h => ?_) (fun h => ?_) <;> (try simp only [nrm] at h) <;> (try exact Bool.noConfusion h))
          all_goals try simp -dsimp [hlt, hw, hw8, hy, hye, hkey, b5, e1, e2, e3, g3, g4, hXa, hk2, hz, hze, hw5, hw6, hw7, hk0, hk9, hlti, z2, hs]
          all_goals try clear hs
          all_goals exact At.round ⟨(k + 1 + 1, mput y.letter y.frm mp), by omega, hnew⟩ (by simp only; omega) (Weak.of_drop [4,9,10,11,12,13,14,16,18,98,99,100] 2 (by simp) (by simp) (by simp))
      · have hold := hold hkey
        clear hnew
        cases k with
        | zero =>
          rcases cases3 with ⟨e1, e2, e3⟩ | ⟨e1, e2, e3⟩ | ⟨e1, e2, e3⟩
          have hs : True := trivial
          repeat' first | (with_reducible first | refine q01 ?_ | refine q04 ?_ | refine q11 ?_ | refine q12 ?_ | refine q14 ?_) | (refine DT_regionM (id := 14) (nt := 213) 53 [0,1,2,3,4,8,9,10,11,12,13,14,15,16,17,18,19,20,22,23,24,25,26,27,35,96,98,99,100,101,157,166,173,174,210] mixed rfl (by kernel_rfl) ?_; simp -dsimp [hlt, hw, hy, hye, hkey, b5, e1, e2, e3, g3, g4, hXa, hs]) | (with_reducible refine DT_regionE [0,1,2,3,4,8,9,10,11,12,13,14,15,16,17,18,19,20,22,23,24,25,26,27,35,96,98,99,100,101,157,166,173,174,210] ?_; simp -dsimp [hlt, hw, hy, hye, hkey, b5, e1, e2, e3, g3, g4, hXa, hs]) | (refine DT_cond rfl (fun h => ?_) (fun h => ?_) <;> (try simp only [nrm] at h) <;> (try exact Bool.noConfusion h))
          all_goals try simp -dsimp [hlt, hw, hy, hye, hkey, b5, e1, e2, e3, g3, g4, hXa, hs]
          all_goals try clear hs
          all_goals exact At.round ⟨(0 + 1, mp), by omega, hold⟩ (by simp only; omega) (Weak.of_drop [4,9,10,11,12,13,14,16,18,98,99,100] 2 (by simp) (by simp) (by simp [hw1]))
        | succ k =>
          have hk2 : k < L.length := by omega
          have hz : L[k]? = some L[k] := List.getElem?_eq_getElem hk2
          obtain ⟨z1, z2⟩ := hnx L[k] y hz hy
          generalize hze : L[k] = z at *
          have hw5 : IntKind.i64.wrap (((k + 1 : Nat) : Int) - 1) = (k : Int) := by rw [show ((k + 1 : Nat) : Int) - 1 = k by omega]; exact i64w (by omega) (by omega)
          have hw6 : IntKind.i64.wrap (z.to + 1) = y.frm := by rw [z1]; exact i64w (by omega) (by omega)
          have hk0 : (0 : Int) < (k : Int) + 1 := by omega
          have hk9 : (0 : Int) ≤ (k : Int) + 1 := by omega
          have hlti : (k : Int) + 1 < L.length := by omega
          have hw7 := hw5
          simp at hw7
          have hw8 := hw
          simp at hw8
          rcases cases3 with ⟨e1, e2, e3⟩ | ⟨e1, e2, e3⟩ | ⟨e1, e2, e3⟩
          have hs : True := trivial
          repeat' first | (with_reducible first | refine q01 ?_ | refine q04 ?_ | refine q11 ?_ | refine q12 ?_ | refine q14 ?_) | (refine DT_regionM (id := 14) (nt := 213) 53 [0,1,2,3,4,8,9,10,11,12,13,14,15,16,17,18,19,20,22,23,24,25,26,27,35,96,98,99,100,101,157,166,173,174,210] mixed rfl (by kernel_rfl) ?_; simp -dsimp [hlt, hw, hw8, hy, hye, hkey, b5, e1, e2, e3, g3, g4, hXa, hk2, hz, hze, hw5, hw6, hw7, hk0, hk9, hlti, z2, hs]) | (with_reducible refine DT_regionE [0,1,2,3,4,8,9,10,11,12,13,14,15,16,17,18,19,20,22,23,24,25,26,27,35,96,98,99,100,101,157,166,173,174,210] ?_; simp -dsimp [hlt, hw, hw8, hy, hye, hkey, b5, e1, e2, e3, g3, g4, hXa, hk2, hz, hze, hw5, hw6, hw7, hk0, hk9, hlti, z2, hs]) | (refine DT_cond rfl (fun h => ?_) (fun h => ?_) <;> (try simp only [nrm] at h) <;> (try exact Bool.noConfusion h))
          all_goals try simp -dsimp [hlt, hw, hw8, hy, hye, hkey, b5, e1, e2, e3, g3, g4, hXa, hk2, hz, hze, hw5, hw6, hw7, hk0, hk9, hlti, z2, hs]
          all_goals try clear hs
          all_goals exact At.round ⟨(k + 1 + 1, mp), by omega, hold⟩ (by simp only; omega) (Weak.of_drop [4,9,10,11,12,13,14,16,18,98,99,100] 2 (by simp) (by simp) (by simp))
    · obtain rfl : k = L.length := by omega
      rw [List.take_length] at hmp
      have hs : True := trivial
      repeat' first | (with_reducible first | refine q01 ?_ | refine q03 ?_ | refine q06 ?_ | refine q11 ?_ | refine q12 ?_ | refine q16 ?_) | (with_reducible refine DT_regionE [0,1,2,3,4,8,9,10,11,12,13,14,15,16,17,18,19,20,22,23,24,25,26,27,35,96,98,99,100,101,157,166,173,174,210] ?_; simp -dsimp [hlt, hs]) | (refine DT_cond rfl (fun h => ?_) (fun h => ?_) <;> (try simp only [nrm] at h) <;> (try exact Bool.noConfusion h))
      all_goals try simp -dsimp [hlt, hs]
      all_goals try clear hs
      refine DT_loop (ι := { k : Nat // k ≤ 10 }) (fun p => ⟨213, [(4, .one (.ptr 0 0)), (9, bv true), (10, isv t), (12, iv D), (18, .one (.map 1)), (173, iv (p.1 : Int))], [.row ((encNotes n).map .im), .map [.int .i64] (encM mp)]⟩) (fun p => 10 - p.1) ⟨0, by omega⟩ (Weak.of_keep [4,9,10,12,18,173] (by simp)) ?_
      rintro ⟨k, hk⟩
      simp only [iv, isv, bv]
      by_cases hlt : k < 10
      · have hw : IntKind.i64.wrap ((k : Int) + 1) = ((k + 1 : Nat) : Int) := i64w (by omega) (by omega)
        have hli : (k : Int) < 10 := by omega
        have d1 := c8 (k : Int)
        obtain ⟨h1, h2⟩ := hmp (k : Int)
        unfold firstE at d1
        rw [← h1, ← h2] at d1
        generalize hv : mlook mp (k : Int) = v at *
        cases hkey : mkey mp (k : Int)
        · rw [hkey, if_neg (by decide)] at d1
          have hs : True := trivial
          repeat' first | (with_reducible first | refine q01 ?_ | refine q04 ?_ | refine q11 ?_ | refine q12 ?_ | refine q14 ?_) | (refine CallE.pure (d1) ?_; try simp -dsimp [hli, hw, hkey, hv, hs]) | (with_reducible refine DT_regionE [0,1,2,3,4,8,9,10,11,12,13,14,15,16,17,18,19,20,22,23,24,25,26,27,35,96,98,99,100,101,157,166,173,174,210] ?_; simp -dsimp [hli, hw, hkey, hv, hs]) | (refine DT_cond rfl (fun h => ?_) (fun h => ?_) <;> (try simp only [nrm] at h) <;> (try exact Bool.noConfusion h))
          all_goals try simp -dsimp [hli, hw, hkey, hv, hs]
          all_goals try clear hs
          all_goals exact At.round ⟨k + 1, by omega⟩ (by simp only; omega) (Weak.of_keep [4,9,10,12,18,173] (by simp))
        · rw [hkey, if_pos rfl] at d1
          have hs : True := trivial
          repeat' first | (with_reducible first | refine q01 ?_ | refine q04 ?_ | refine q11 ?_ | refine q12 ?_ | refine q14 ?_) | (refine CallE.pure (d1) ?_; try simp -dsimp [hli, hw, hkey, hv, hs]) | (with_reducible refine DT_regionE [0,1,2,3,4,8,9,10,11,12,13,14,15,16,17,18,19,20,22,23,24,25,26,27,35,96,98,99,100,101,157,166,173,174,210] ?_; simp -dsimp [hli, hw, hkey, hv, hs]) | (refine DT_cond rfl (fun h => ?_) (fun h => ?_) <;> (try simp only [nrm] at h) <;> (try exact Bool.noConfusion h))
          all_goals try simp -dsimp [hli, hw, hkey, hv, hs]
          all_goals try clear hs
          all_goals exact At.round ⟨k + 1, by omega⟩ (by simp only; omega) (Weak.of_keep [4,9,10,12,18,173] (by simp))
      · have hli : ¬ (k : Int) < 10 := by omega
        have hs : True := trivial
        repeat' first | (with_reducible first | refine q01 ?_ | refine q03 ?_ | refine q06 ?_ | refine q11 ?_ | refine q16 ?_ | refine q17 ?_) | (with_reducible refine At.fn_ret (by simp -dsimp [hli, hs]; exact rfl) ?_) | (with_reducible refine DT_regionE [0,1,2,3,4,8,9,10,11,12,13,14,15,16,17,18,19,20,22,23,24,25,26,27,35,96,98,99,100,101,157,166,173,174,210] ?_; simp -dsimp [hli, hs]) | (refine DT_cond rfl (fun h => ?_) (fun h => ?_) <;> (try simp only [nrm] at h) <;> (try exact Bool.noConfusion h))
        all_goals try simp -dsimp [hli, hs]
        all_goals try clear hs
end Go.Proofs
