/- Part 26 of the proofs: laws and walks that hold without conditions beyond those that each theorem names. -/
import Derived.Test.YtmfanojaldiejaaGreatDoorA22
import Derived.Test.YtmfanojaldiejaaGreatDoorA24
import Derived.Test.YtmfanojaldiejaaGreatDoorA25
set_option linter.all false
set_option linter.deprecated false
namespace Go.Proofs
open Go Go.Ab
def strip (l : List Note) : List Note := l.map fun x => sgn x 0
theorem strip_at (l : List Note) (i : Nat) : (strip l)[i]? = (l[i]?).map fun x => sgn x 0 := by simp [strip]
theorem strip_set (l : List Note) (i : Nat) (v : Int) : strip (setSg l i v) = strip l := by
  unfold setSg
  split
  · rename_i x hx
    refine List.ext_getElem? fun j => ?_
    rw [strip_at, strip_at]
    by_cases e : i = j
    · subst e
      have hi := lt_of_getElem? hx
      rw [List.getElem?_set_self hi, hx]; rfl
    · rw [List.getElem?_set_ne e]
  · rfl
theorem nk6_strip (l : List Note) (i : Nat) (x : Note) : nk6 l i x = nk6 (strip l) i (sgn x 0) := by
  simp only [nk6, strip, ← List.map_take, List.any_map]; rfl
theorem nk7_strip (l : List Note) (i : Nat) (x : Note) : nk7 l i x = nk7 (strip l) i (sgn x 0) := by
  simp only [nk7, strip, ← List.map_take, List.any_map]; rfl
theorem nk8_strip (l : List Note) (i : Nat) (x : Note) : nk8 l i x = nk8 (strip l) i (sgn x 0) := by
  unfold nk8
  split
  · rfl
  · rw [strip_at]
    cases l[i - 1]? <;> rfl
theorem allOk_set {n : Notes} (hok : allOk n) {v : Int} (hv : 0 ≤ v ∧ v ≤ 2) (i : Nat) : allOk ⟨n.reg, setSg n.notes i v⟩ := by
  intro j y hy
  have hs : (strip (setSg n.notes i v))[j]? = some (sgn y 0) := by rw [strip_at]; rw [show (setSg n.notes i v)[j]? = some y from hy]; rfl
  rw [strip_set, strip_at, Option.map_eq_some_iff] at hs
  obtain ⟨x, hx, hxy⟩ := hs
  have h := hok j x hx
  have h2 : y.signed ≤ 2 := by
    have hx2 : x.signed ≤ 2 := by
      simp only [nkA, nk2, Bool.and_eq_true, decide_eq_true_eq] at h
      omega
    have hy' : (setSg n.notes i v)[j]? = some y := hy
    unfold setSg at hy'
    split at hy'
    · rename_i z hz
      by_cases e : i = j
      · subst e
        rw [List.getElem?_set_self (lt_of_getElem? hz)] at hy'
        rw [← Option.some.inj hy']; exact hv.2
      · rw [List.getElem?_set_ne e, hx] at hy'
        rw [← Option.some.inj hy']; exact hx2
    · rw [hx] at hy'
      rw [← Option.some.inj hy']; exact hx2
  simp only [nkA, Bool.and_eq_true] at h ⊢
  obtain ⟨⟨⟨⟨⟨⟨⟨a1, a2⟩, a3⟩, a4⟩, a5⟩, a6⟩, a7⟩, a8⟩ := h
  have e1 : nk1 y = nk1 x := by show nk1 (sgn y 0) = nk1 (sgn x 0); rw [hxy]
  have e3 : nk3 y = nk3 x := by show nk3 (sgn y 0) = nk3 (sgn x 0); rw [hxy]
  have e4 : nk4 n.reg y = nk4 n.reg x := by show nk4 n.reg (sgn y 0) = nk4 n.reg (sgn x 0); rw [hxy]
  have e5 : nk5 y = nk5 x := by show nk5 (sgn y 0) = nk5 (sgn x 0); rw [hxy]
  have ew : y.ways = x.ways := by show (sgn y 0).ways = (sgn x 0).ways; rw [hxy]
  refine ⟨⟨⟨⟨⟨⟨⟨by rw [e1]; exact a1, ?_⟩, by rw [e3]; exact a3⟩, by rw [e4]; exact a4⟩, by rw [e5]; exact a5⟩, ?_⟩, ?_⟩, ?_⟩
  · simp only [nk2, Bool.and_eq_true, decide_eq_true_eq] at a2 ⊢
    rw [ew]; exact ⟨h2, a2.2⟩
  · show nk6 (setSg n.notes i v) j y = true
    rw [nk6_strip, strip_set, ← hxy, ← nk6_strip]; exact a6
  · show nk7 (setSg n.notes i v) j y = true
    rw [nk7_strip, strip_set, ← hxy, ← nk7_strip]; exact a7
  · show nk8 (setSg n.notes i v) j y = true
    rw [nk8_strip, strip_set, ← hxy, ← nk8_strip]; exact a8
theorem frcL_ext {s s' w w' : List Int} {m : Int} : ∀ {l l' : List Note}, strip l = strip l' → (∀ (j : Nat) (x x' : Note), l[j]? = some x → l'[j]? = some x' → frcB s w m x = frcB s' w' m x') → frcL s w m l = frcL s' w' m l'
  | [], [], _, _ => rfl
  | [], y :: l', h, _ => by simp [strip] at h
  | x :: l, [], h, _ => by simp [strip] at h
  | x :: l, y :: l', h, hb => by
    simp only [strip, List.map_cons, List.cons.injEq] at h
    have hr : strip l = strip l' := h.2
    have ih := frcL_ext hr fun j a b ha hb' => hb (j + 1) a b (by simpa using ha) (by simpa using hb')
    have hn : x.number = y.number := by show (sgn x 0).number = (sgn y 0).number; rw [h.1]
    have hO : ∀ (a : Int) (l l' : List Note) (F : List Bool), strip l = strip l' → frcO a l F = frcO a l' F := by
      intro a l
      induction l with
      | nil => intro l' F h; cases l' with
        | nil => rfl
        | cons => simp [strip] at h
      | cons z l ih => intro l' F h; cases l' with
        | nil => simp [strip] at h
        | cons z' l' =>
          simp only [strip, List.map_cons, List.cons.injEq] at h
          have hc : z.cancels = z'.cancels := by show (sgn z 0).cancels = (sgn z' 0).cancels; rw [h.1]
          cases F with
          | nil => rfl
          | cons f F => simp only [frcO, hc, ih l' F h.2]
    simp only [frcL, hb 0 x y rfl rfl, ih, hn, hO _ _ _ _ hr]
end Go.Proofs
namespace Go.Proofs
open Go Go.Ab
theorem byK_strip (l : List Note) (b : List Bool) (d : Int) : ∀ k, byK (strip l) b d k = byK l b d k
  | 0 => rfl
  | k + 1 => by
    unfold byK
    rw [byK_strip l b d k, strip_at, Option.map_map]; rfl
theorem letterK_strip (l : List Note) (b : List Bool) (d : Int) : letterK (strip l) b d = letterK l b d := by
  unfold letterK
  rw [byK_strip, strip_at]
  split
  · rfl
  · cases l[(byK l b d b.length).toNat]? <;> rfl
theorem letF_ext {n n' : Notes} {s s' : List Int} {m : Int} (hs : strip n'.notes = strip n.notes) (hf : frcL s' [] m n'.notes = frcL s [] m n.notes) (d : Int) : letF n' s' d m = letF n s d m := by
  unfold letF
  rw [hf, ← letterK_strip, hs, letterK_strip]
theorem setSg_at {l : List Note} {i j : Nat} {v : Int} {y : Note} (h : (setSg l i v)[j]? = some y) : ∃ x, l[j]? = some x ∧ y = if i = j then sgn x v else x := by
  unfold setSg at h
  split at h
  · rename_i z hz
    by_cases e : i = j
    · subst e
      rw [List.getElem?_set_self (lt_of_getElem? hz)] at h
      exact ⟨z, hz, by rw [if_pos rfl]; exact (Option.some.inj h).symm⟩
    · rw [List.getElem?_set_ne e] at h
      exact ⟨y, h, by rw [if_neg e]⟩
  · rename_i hz
    refine ⟨y, h, ?_⟩
    rw [if_neg]
    intro e; subst e; rw [h] at hz; cases hz
theorem setSg_get {l : List Note} {i j : Nat} {v : Int} {x : Note} (h : l[j]? = some x) : (setSg l i v)[j]? = some (if i = j then sgn x v else x) := by
  cases hy : (setSg l i v)[j]? with
  | none =>
    have h1 := lt_of_getElem? h
    rw [List.getElem?_eq_none_iff, setSg_len] at hy; omega
  | some y =>
    obtain ⟨z, h1, h2⟩ := setSg_at hy
    rw [h] at h1; cases h1; rw [h2]
theorem frc_yes {n : Notes} (hok : allOk n) {i : Nat} {x : Note} (hx : n.notes[i]? = some x) {t t' : List Int} (ht : ∀ y, y ∈ t' ↔ y ∈ t ∨ y = x.number) (m : Int) : frcL t [] m (setSg n.notes i 2) = frcL t' [] m n.notes := by
  refine frcL_ext (strip_set _ _ _) fun j y z hy hz => ?_
  obtain ⟨z', h1, h2⟩ := setSg_at hy
  rw [hz] at h1; cases h1
  by_cases e : i = j
  · subst e
    rw [hx] at hz; cases hz
    rw [if_pos rfl] at h2
    subst h2
    simp only [frcB, sgn, decide_true, Bool.true_or, (ht x.number).2 (.inr rfl), decide_true, Bool.or_true]
    rfl
  · rw [if_neg e] at h2
    subst h2
    have hne : y.number ≠ x.number := fun h => e (by
      have h3 := settleI_at hok hx
      have h4 := settleI_at hok hz
      rw [h, h3] at h4; exact h4)
    have hm : decide (y.number ∈ t') = decide (y.number ∈ t) := by
      rw [decide_eq_decide, ht]; simp [hne]
    simp only [frcB, hm]
theorem frc_no {n : Notes} {i : Nat} {x : Note} (hx : n.notes[i]? = some x) (ho : x.signed = 1) {t : List Int} (ht : x.number ∉ t) (m : Int) : frcL t [] m (setSg n.notes i 0) = frcL t [] m n.notes := by
  refine frcL_ext (strip_set _ _ _) fun j y z hy hz => ?_
  obtain ⟨z', h1, h2⟩ := setSg_at hy
  rw [hz] at h1; cases h1
  by_cases e : i = j
  · subst e
    rw [hx] at hz; cases hz
    rw [if_pos rfl] at h2
    subst h2
    simp [frcB, sgn, ho, ht]
  · rw [if_neg e] at h2
    subst h2; rfl
theorem open_set {n : Notes} (hok : allOk n) {i : Nat} {x : Note} (hx : n.notes[i]? = some x) {v : Int} (hv : v ≠ 1) (a : Int) : a ∈ openL (setSg n.notes i v) ↔ a ∈ openL n.notes ∧ a ≠ x.number := by
  rw [open_mem, open_mem]
  constructor
  · rintro ⟨k, y, h1, h2, h3⟩
    obtain ⟨z, h4, h5⟩ := setSg_at h1
    by_cases e : i = k
    · rw [if_pos e] at h5
      subst h5
      exact absurd h3 (by simpa [sgn] using hv)
    · rw [if_neg e] at h5
      subst h5
      refine ⟨⟨k, y, h4, h2, h3⟩, fun h => e ?_⟩
      have h6 := settleI_at hok hx
      have h7 := settleI_at hok h4
      rw [h2, h, h6] at h7; exact h7
  · rintro ⟨⟨k, y, h1, h2, h3⟩, h4⟩
    have e : i ≠ k := fun e => by subst e; rw [hx] at h1; cases h1; exact h4 h2.symm
    exact ⟨k, y, by rw [setSg_get h1, if_neg e], h2, h3⟩
theorem open_list {n : Notes} (hok : allOk n) {i : Nat} {x : Note} (hx : n.notes[i]? = some x) {v : Int} (hv : 0 ≤ v ∧ v ≤ 2) (h1 : v ≠ 1) : isort (openL (setSg n.notes i v)) = (isort (openL n.notes)).filter fun a => decide (a ≠ x.number) := by
  refine strict_eq (isort_strict ?_) ((isort_strict (openL_nodup hok)).filter _) fun a => ?_
  · exact openL_nodup (n := ⟨n.reg, setSg n.notes i v⟩) (allOk_set hok hv i)
  · rw [isort_mem, open_set hok hx h1, List.mem_filter, isort_mem]; simp
end Go.Proofs
namespace Go.Proofs
open Go Go.Ab
theorem selN_sub (N : List Int) (s : Nat) : ∀ k, k ≤ N.length → (selN N s k).Sublist (N.take k)
  | 0, _ => by simp [selN]
  | k + 1, h => by
    have hk : k < N.length := by omega
    rw [selN_succ, List.take_succ_eq_append_getElem hk, show N.getD k 0 = N[k] by simp [hk]]
    refine (selN_sub N s k (by omega)).append ?_
    split
    · exact List.Sublist.refl _
    · simp
theorem truths_mem {O : List Int} (hO : O.Pairwise (· < ·)) {t : List Int} : t ∈ truthsL O ↔ t.Sublist O := by
  unfold truthsL trTo
  rw [List.mem_map]
  constructor
  · rintro ⟨s, _, rfl⟩
    have := selN_sub O s O.length (Nat.le_refl _)
    rwa [List.take_length] at this
  · intro ht
    obtain ⟨s, h1, h2⟩ := mask_ex (fun i => decide (O.getD i 0 ∈ t)) O.length
    refine ⟨s, by simpa using h1, ?_⟩
    have hs : (selN O s O.length).Sublist O := by
      have := selN_sub O s O.length (Nat.le_refl _)
      rwa [List.take_length] at this
    refine strict_eq (hO.sublist hs) (hO.sublist ht) fun x => ?_
    rw [selN_mem (Nat.le_refl _)]
    constructor
    · rintro ⟨i, hi, hb, hx⟩
      rw [h2 i hi, decide_eq_true_eq, List.getD_eq_getElem?_getD, hx] at hb
      exact hb
    · intro hx
      obtain ⟨i, hi⟩ := List.mem_iff_getElem?.1 (ht.subset hx)
      have hl := lt_of_getElem? hi
      exact ⟨i, hl, by rw [h2 i hl, decide_eq_true_eq, List.getD_eq_getElem?_getD, hi]; exact hx, hi⟩
def posL (n : Notes) (d m : Int) : List Int := dedupI (isort ((truthsL (isort (openL n.notes))).map fun t => letF n t d m))
theorem posL_mem {n : Notes} (hok : allOk n) {d m k : Int} : k ∈ posL n d m ↔ ∃ t : List Int, t.Sublist (isort (openL n.notes)) ∧ letF n t d m = k := by
  unfold posL
  rw [dedupI_mem, isort_mem, List.mem_map]
  simp only [truths_mem (isort_strict (openL_nodup hok))]
theorem letF_yes {n : Notes} (hok : allOk n) {i : Nat} {x : Note} (hx : n.notes[i]? = some x) {t t' : List Int} (ht : ∀ y, y ∈ t' ↔ y ∈ t ∨ y = x.number) (d m : Int) : letF ⟨n.reg, setSg n.notes i 2⟩ t d m = letF n t' d m :=
  letF_ext (n := n) (n' := ⟨n.reg, setSg n.notes i 2⟩) (strip_set _ _ _) (frc_yes hok hx ht m) d
theorem letF_no {n : Notes} {i : Nat} {x : Note} (hx : n.notes[i]? = some x) (ho : x.signed = 1) {t : List Int} (ht : x.number ∉ t) (d m : Int) : letF ⟨n.reg, setSg n.notes i 0⟩ t d m = letF n t d m :=
  letF_ext (n := n) (n' := ⟨n.reg, setSg n.notes i 0⟩) (strip_set _ _ _) (frc_no hx ho ht m) d
theorem pos_settle {n : Notes} (hok : allOk n) {i : Nat} {x : Note} (hx : n.notes[i]? = some x) (ho : x.signed = 1) (d m k : Int) :
    k ∈ posL n d m ↔ k ∈ posL ⟨n.reg, setSg n.notes i 2⟩ d m ∨ k ∈ posL ⟨n.reg, setSg n.notes i 0⟩ d m := by
  have hOs := isort_strict (openL_nodup hok)
  have hxO : x.number ∈ isort (openL n.notes) := isort_mem.2 (open_mem.2 ⟨i, x, hx, rfl, ho⟩)
  rw [posL_mem hok, posL_mem (allOk_set hok (by omega) i), posL_mem (allOk_set hok (by omega) i)]
  simp only [open_list hok hx (v := 2) (by omega) (by omega), open_list hok hx (v := 0) (by omega) (by omega)]
  generalize isort (openL n.notes) = O at *
  constructor
  · rintro ⟨t, h1, h2⟩
    by_cases ha : x.number ∈ t
    · refine .inl ⟨t.filter fun a => decide (a ≠ x.number), h1.filter _, ?_⟩
      rw [letF_yes hok hx (t' := t) (fun y => by
        rw [List.mem_filter]
        by_cases e : y = x.number
        · subst e; simp [ha]
        · simp [e])]
      exact h2
    · refine .inr ⟨t, ?_, by rw [letF_no hx ho ha]; exact h2⟩
      have := h1.filter fun a => decide (a ≠ x.number)
      rwa [List.filter_eq_self.2 fun a h => by simp; rintro rfl; exact ha h] at this
  · rintro (⟨t, h1, h2⟩ | ⟨t, h1, h2⟩)
    · refine ⟨O.filter fun y => decide (y ∈ t ∨ y = x.number), List.filter_sublist, ?_⟩
      rw [letF_yes hok hx (t' := O.filter fun y => decide (y ∈ t ∨ y = x.number)) (fun y => by
        rw [List.mem_filter, decide_eq_true_eq]
        constructor
        · exact fun h => h.2
        · rintro (h | rfl)
          · exact ⟨(List.filter_sublist.subset (h1.subset h)), .inl h⟩
          · exact ⟨hxO, .inr rfl⟩)] at h2
      exact h2
    · have ha : x.number ∉ t := fun h => by
        have := h1.subset h
        rw [List.mem_filter] at this
        simpa using this.2
      exact ⟨t, h1.trans List.filter_sublist, by rw [← letF_no hx ho ha]; exact h2⟩
end Go.Proofs
namespace Go.Proofs
open Go Go.Ab
theorem x_small : NSm nX := ⟨⟨by decide +kernel, by decide +kernel⟩, by decide +kernel, by decide +kernel⟩
theorem x_smallN : SmallN nX := ⟨⟨by decide +kernel, by decide +kernel⟩, by decide +kernel⟩
theorem x_smallS : NSm nS := ⟨⟨by decide +kernel, by decide +kernel⟩, by decide +kernel, by decide +kernel⟩
theorem x_asked102 (m : Int) (h1 : 1 ≤ m) (h2 : m ≤ 999) : askedE nX [102] m = 0 := by
  unfold askedE
  rw [if_neg (by rw [x_notes]; decide), if_neg (by rw [x_open]; decide +kernel), if_pos ⟨h1, h2⟩]
theorem x_asked9 : askedE nX [102] 9 = 0 := x_asked102 9 (by omega) (by omega)
theorem x_drawn102 : drawnE nX [102] 1 10 = 0 := by
  unfold drawnE
  rw [if_neg (by rw [x_asked102 1 (by omega) (by omega)]; decide), if_pos (by rw [x_nums]; simp)]
theorem x_strL : strL nX [102] 10 = [⟨1, 7, 1⟩, ⟨8, 20, 2⟩, ⟨21, 999, 1⟩] := by
  unfold strL
  rw [x_drawn102, if_pos rfl, x_str10]
theorem x_first : firV nX [102] 10 2 = 8 ∧ firE nX [102] 10 2 = 0 := by
  unfold firV firE
  rw [x_drawn102, x_strL]
  decide +kernel
theorem x_askedS : askedE nS [] 10 = 0 := by
  unfold askedE
  rw [if_neg (by rw [y_check]; decide), if_neg (by rw [y_open]; decide +kernel), if_pos (by decide)]
theorem x_drawnS : drawnE nS [] 10 10 = 0 := by
  unfold drawnE
  rw [if_neg (by rw [x_askedS]; decide), if_pos (by show (10 : Int) ∈ nums nX.reg; rw [x_nums]; simp)]
theorem x_posS : dedupI (isort ((truthsL (isort (openL nS.notes))).map fun t => letF nS t 10 10)) = [2] := by
  rw [y_open, y_truths, List.map_cons, List.map_nil, y_let]
  rw [show isort [(2 : Int)] = [2] from isort_eq (by decide) (by decide)]
  decide +kernel
theorem x_posX : dedupI (isort ((truthsL (isort (openL nX.notes))).map fun t => letF nX t 10 10)) = [1,2] := by
  rw [x_open, x_truths, List.map_cons, List.map_cons, List.map_nil, x_let1, x_let2]
  rw [show isort [(1 : Int), 2] = [1,2] from isort_eq (by decide) (by decide)]
  decide +kernel
end Go.Proofs
namespace Go.Proofs
open Go Go.Ab
set_option linter.unusedSimpArgs false
variable {G : Nat → Option (List IC)}
set_option maxHeartbeats 4000000 in
theorem register_c  (objs : List DObj) : DCall Tryz.prog G 81 [] objs (fun rr objs' => rr = regv regX ∧ objs' = objs) := by
  refine DCall.frame ?_ (by simp) (by simp) objs
  refine DCall_intro Tryz.func81 rfl Tryz.ntmps81 (by simp) rfl ?_
  try simp only [iv]
  have hs : True := trivial
  repeat' first | (with_reducible first | refine q01 ?_ | refine q11 ?_ | refine q17 ?_) | (with_reducible refine At.fn_ret (by simp -dsimp [hs]; exact rfl) ?_) | (with_reducible refine DT_regionN (id := 1) (nt := 24) [0] rfl ?_; simp -dsimp [hs]) | (with_reducible refine DT_regionE [0] ?_; simp -dsimp [hs])
  all_goals try simp -dsimp [hs]
  all_goals try clear hs
  all_goals simp [regX]
set_option maxHeartbeats 4000000 in
theorem notesX_c  (objs : List DObj) : DCall Tryz.prog G 42 [] objs (fun rr objs' => rr = notesv nX ∧ objs' = objs) := by
  refine DCall.frame ?_ (by simp) (by simp) objs
  refine DCall_intro Tryz.func42 rfl Tryz.ntmps42 (by simp) rfl ?_
  try simp only [iv]
  have c1 := register_c (G := G)
  simp only [regv] at c1
  have hs : True := trivial
  repeat' first | (with_reducible first | refine q01 ?_ | refine q11 ?_ | refine q17 ?_) | (with_reducible refine At.fn_ret (by simp -dsimp [hs]; exact rfl) ?_) | (refine CallE.pure (c1) ?_; try simp -dsimp [hs]) | (with_reducible refine DT_regionE [0] ?_; simp -dsimp [hs])
  all_goals try simp -dsimp [hs]
  all_goals try clear hs
  all_goals simp [nX, noteX]
theorem forced_c (m : Int) (w : List Int) (hG : sheetG G) (hN : noteG G) (hS : SortOk G) (hw : w.length < 1000) (hm : 1 ≤ m ∧ m ≤ 999) (h : inT nX.notes (frcL [] [] m nX.notes) 4 = w) (objs : List DObj) : DCall Tryz.prog G 43 [iv m, isv w] objs (fun rr objs' => rr = bv true ∧ objs' = objs) := by
  refine DCall.frame ?_ (by simp) (by simp) objs
  refine DCall_intro Tryz.func43 rfl Tryz.ntmps43 (by simp) rfl ?_
  try simp only [iv, isv]
  have c1 := notesX_c (G := G)
  have c2 := nForce_c (G := G) nX [] m hG hN hS x_small (by simp)
  rw [x_asked m hm.1 hm.2, if_pos rfl, show nX.notes.length = 4 from rfl, h] at c2
  have c3 := isX_c (G := G) w 0 w (by omega) (by omega)
  simp only [decide_true, Bool.and_self] at c3
  clear hG hN hS
  generalize nX = n at *
  have hs : True := trivial
  repeat' first | (with_reducible first | refine q01 ?_ | refine q11 ?_ | refine q17 ?_) | (with_reducible refine At.fn_ret (by simp -dsimp [hs]; exact rfl) ?_) | (refine CallE.pure (c1) ?_; try simp -dsimp [hs]) | (refine CallE.pure (c2) ?_; try simp -dsimp [hs]) | (refine CallE.pure (c3) ?_; try simp -dsimp [hs]) | (with_reducible refine DT_regionE [0,1,4,5,6] ?_; simp -dsimp [hs])
  all_goals try simp -dsimp [hs]
  all_goals try clear hs
theorem lettered_c (s : List Int) (m : Int) (w : List Int) (hG : sheetG G) (hN : noteG G) (hS : SortOk G) (hs : s.length < 1000) (hw : w.length < 1000) (ha : askedE nX s m = 0) (h : lettersK nX s m = w) (objs : List DObj) : DCall Tryz.prog G 44 [isv s, iv m, isv w] objs (fun rr objs' => rr = bv true ∧ objs' = objs) := by
  refine DCall.frame ?_ (by simp) (by simp) objs
  refine DCall_intro Tryz.func44 rfl Tryz.ntmps44 (by simp) rfl ?_
  try simp only [isv, iv, isv]
  have c1 := notesX_c (G := G)
  have c2 := nLetters_c (G := G) nX s m hG hN hS x_small hs
  rw [ha, if_pos rfl, letters_eq, h] at c2
  have c3 := isX_c (G := G) w 0 w (by omega) (by omega)
  simp only [decide_true, Bool.and_self] at c3
  clear hG hN hS
  generalize nX = n at *
  have hs : True := trivial
  repeat' first | (with_reducible first | refine q01 ?_ | refine q11 ?_ | refine q17 ?_) | (with_reducible refine At.fn_ret (by simp -dsimp [hs]; exact rfl) ?_) | (refine CallE.pure (c1) ?_; try simp -dsimp [hs]) | (refine CallE.pure (c2) ?_; try simp -dsimp [hs]) | (refine CallE.pure (c3) ?_; try simp -dsimp [hs]) | (with_reducible refine DT_regionE [0,1,2,6,7,8] ?_; simp -dsimp [hs])
  all_goals try simp -dsimp [hs]
  all_goals try clear hs
theorem possible_c (n : Notes) (d m : Int) (w : List Int) (hG : sheetG G) (hN : noteG G) (hS : SortOk G) (hs : NSm n) (hw : w.length < 1000) (ha : drawnE n [] m d = 0) (h : dedupI (isort ((truthsL (isort (openL n.notes))).map fun t => letF n t d m)) = w) (objs : List DObj) : DCall Tryz.prog G 48 [notesv n, iv d, iv m, isv w] objs (fun rr objs' => rr = bv true ∧ objs' = objs) := by
  refine DCall.frame ?_ (by simp) (by simp) objs
  refine DCall_intro Tryz.func48 rfl Tryz.ntmps48 (by simp) rfl ?_
  try simp only [notesv, iv, iv, isv]
  have c2 := nPossible_c (G := G) n d m hG hN hS hs
  rw [ha, if_pos rfl, h] at c2
  have c3 := isX_c (G := G) w 0 w (by omega) (by omega)
  simp only [decide_true, Bool.and_self] at c3
  clear hG hN hS
  have hs : True := trivial
  repeat' first | (with_reducible first | refine q01 ?_ | refine q11 ?_ | refine q17 ?_) | (with_reducible refine At.fn_ret (by simp -dsimp [hs]; exact rfl) ?_) | (refine CallE.pure (c2) ?_; try simp -dsimp [hs]) | (refine CallE.pure (c3) ?_; try simp -dsimp [hs]) | (with_reducible refine DT_regionE [0,1,2,3,4,8,9,10] ?_; simp -dsimp [hs])
  all_goals try simp -dsimp [hs]
  all_goals try clear hs
end Go.Proofs
namespace Go.Proofs
open Go Go.Ab
set_option linter.unusedSimpArgs false
variable {G : Nat → Option (List IC)}
theorem nSettleE_c (n : Notes) (a : Int) (b : Bool) (hG : sheetG G) (hN : noteG G) (hS : SortOk G) (hs : NSm n) (h0 : settleE n a ≠ 0) (objs : List DObj) : DCall Tryz.prog G 24 [notesv n, iv a, bv b] objs (fun rr objs' => rr = .tup [notesv ⟨[], []⟩, iv (settleE n a)] ∧ objs' = objs) := by
  refine DCall.frame ?_ (by simp) (by simp) objs
  refine DCall_intro Tryz.func24 rfl Tryz.ntmps24 (by simp) rfl ?_
  try simp only [notesv, iv, bv]
  have c1 := opened_c n hG hN hS hs
  simp only [iv, fileR] at c1
  by_cases hE : notesE n = 0
  · rw [if_pos hE] at c1
    have hnk := notes_ok hE
    have ho : ¬ a ∈ isort (openL n.notes) := fun h => h0 (by unfold settleE; rw [if_neg (by simp [hE]), if_pos (isort_mem.1 h)])
    have hs6 : settleE n a = 6 := by unfold settleE; rw [if_neg (by simp [hE]), if_neg fun h => ho (isort_mem.2 h)]
    have c2 := contains_c (G := G) (isort (openL n.notes)) a (by rw [isortL]; omega)
    rw [decide_eq_false ho] at c2
    rw [hE] at c1
    rw [hs6]
    simp only [isv, iv, bv, fileI] at c1 c2
    have hs : True := trivial
    repeat' first | (with_reducible first | refine q01 ?_ | refine q02 ?_ | refine q11 ?_ | refine q14 ?_ | refine q17 ?_) | (with_reducible refine At.fn_ret (by simp -dsimp [ho, hs]; exact rfl) ?_) | (refine CallE.pure (c1) ?_; try simp -dsimp [ho, hs]) | (refine QCall_pure (c2) ?_; try simp -dsimp [ho, hs]) | (refine DT_regionM (id := 4) (nt := 76) 7 [0,1,2,3,4,6,7,8,9,10,12,13,20,29,37,38,39,40,69] mixed rfl (by kernel_rfl) ?_; simp -dsimp [ho, hs]) | (with_reducible refine DT_regionE [0,1,2,3,4,6,7,8,9,10,12,13,20,29,37,38,39,40,69] ?_; simp -dsimp [ho, hs]) | (refine DT_cond rfl (fun h => ?_) (fun h => ?_) <;> (try simp only [nrm] at h) <;> (try exact Bool.noConfusion h))
    all_goals try simp -dsimp [ho, hs]
    all_goals try clear hs
    all_goals simp
  · rw [if_neg hE] at c1
    have hs6 : settleE n a = notesE n := by unfold settleE; rw [if_pos hE]
    rw [hs6]
    have hs : True := trivial
    repeat' first | (with_reducible first | refine q01 ?_ | refine q02 ?_ | refine q11 ?_ | refine q17 ?_) | (with_reducible refine At.fn_ret (by simp -dsimp [hE, hs]; exact rfl) ?_) | (refine CallE.pure (c1) ?_; try simp -dsimp [hE, hs]) | (with_reducible refine DT_regionE [0,1,2,3,4,6,7,8,9,10,12,13,20,29,37,38,39,40,69] ?_; simp -dsimp [hE, hs]) | (refine DT_cond rfl (fun h => ?_) (fun h => ?_) <;> (try simp only [nrm] at h) <;> (try exact Bool.noConfusion h))
    all_goals try simp -dsimp [hE, hs]
    all_goals try clear hs
    all_goals simp
theorem settle1_c (a : Int) (y : Note) (objs : List DObj) : DCall Tryz.prog G 66 [notev y, .one (.im (.ip [rI a]))] objs (fun d o => d = bv (decide (y.number = a)) ∧ o = objs) := by
  refine DCall.frame ?_ (by simp) (by simp) objs
  refine DCall_intro Tryz.func66 rfl Tryz.ntmps66 (by simp) rfl ?_
  have hs : True := trivial
  repeat' first | (with_reducible first | refine q01 ?_ | refine q11 ?_ | refine q17 ?_) | (with_reducible refine At.fn_ret (by simp -dsimp [hs]; exact rfl) ?_) | (with_reducible refine DT_regionE [0,1,2,3] ?_; simp -dsimp [hs])
  all_goals try simp -dsimp [hs]
  all_goals try clear hs
def SetP (n : Notes) (a : Int) (b : Bool) (d : DV) (o : List DObj) : Prop := ∃ i : Nat × Nat × Nat × Bool, True ∧ d = .tup [.agg [.vec 7 i.2.1 0 n.reg.length, .vec 6 i.1 0 n.notes.length], iv 0] ∧ o = [.row ((encNotes n).map .im), .row [.im (rI a)], .vec 0 [] 0 true, .vec 0 [] 0 true, .row [.vec 7 i.2.1 0 n.reg.length, .vec 6 i.1 0 n.notes.length], .vec 10 [] 0 true, .vec 10 (ims ((settleL n a b).map encNote)) i.1 false, .vec i.2.2.1 (ims (n.reg.map encIssue)) i.2.1 i.2.2.2, .vec 0 [] 0 true, .vec 0 [] 0 true, .vec 0 [] 0 true, .row [.vec 7 i.2.1 0 n.reg.length, .vec 6 i.1 0 n.notes.length]]
set_option maxHeartbeats 4000000 in
theorem nSettleS_c (n : Notes) (a : Int) (b : Bool) (hG : sheetG G) (hN : noteG G) (hS : SortOk G) (hsn : SmallN n) (hs : NSm n) (h0 : settleE n a = 0) : DCall Tryz.prog G 24 [notesv n, iv a, bv b] [] (SetP n a b) := by
  refine DCall_intro Tryz.func24 rfl Tryz.ntmps24 (by simp) rfl ?_
  have c1 := opened_c n hG hN hS hs
  have hE : notesE n = 0 := by
    unfold settleE at h0
    split at h0
    · contradiction
    · simpa using ‹¬ notesE n ≠ 0›
  have hnk := notes_ok hE
  have ho : a ∈ openL n.notes := by
    unfold settleE at h0
    rw [if_neg (by simp [hE])] at h0
    split at h0
    · assumption
    · cases h0
  have c2 := contains_c (G := G) (isort (openL n.notes)) a (by rw [isortL]; omega)
  rw [decide_eq_true (isort_mem.2 ho)] at c2
  have c3 := cloneNN_c (G := G) n.notes (by omega)
  simp only [iv, isv, bv, fileR, if_pos hE, fileI] at c1 c2 c3
  rw [hE] at c1
  simp only [iv]
  obtain ⟨k0, x0, hx0, hn0, hg0⟩ := open_mem.1 ho
  have hk0 := lt_of_getElem? hx0
  have hx0e : n.notes[k0] = x0 := (List.getElem?_eq_some_iff.1 hx0).2
  have hne : n.notes ≠ [] := fun e => by rw [e] at hk0; simp at hk0
  have c5 := fun objs => DCall.fnArg2 (cs := [.ip [rI a]]) (indexFunc_note (G := G) n.notes (fun y => decide (y.number = a)) 66 [.im (.ip [rI a])] objs (by simp) (fun x _ => settle1_c a x objs) (by omega))
  rw [show fidx (fun y => decide (y.number = a)) n.notes = (k0 : Int) by rw [← hn0]; exact fidx_num hnk.2.2.1 hx0] at c5
  have hL : settleL n a b = n.notes.set k0 (sgn x0 (if b = true then 2 else 0)) := by
    unfold settleL setSg; rw [show settleI n a = k0 by rw [← hn0]; exact settleI_at hnk.2.2.1 hx0, hx0]
  have hN60 : n.reg.length ≤ 80 := by have := hs.1.1; omega
  have hit : ∀ x ∈ n.reg, x.items.length < 1000000 ∧ x.dims.length < 1000000 := fun x hx => by have := hs.1.2 x hx; omega
  clear hS hG hN
  have hs : True := trivial
  repeat' first | (with_reducible first | refine q01 ?_ | refine q11 ?_ | refine q12 ?_ | refine q14 ?_) | (refine CallE.pure (c1) ?_; try simp -dsimp [hs]) | (refine QCall_pure (c2) ?_; try simp -dsimp [hs]) | (refine CallE.embed_ex [] (c3) ?_ ?_ ?_ ?_ ?_ ?_; (focus (simp [emb]; done)); (focus (simp; done)); (focus (simp; done)); (focus (simp; done)); (focus (refine emb_all ?_; simp [emb, embAll]; done)); intro mm hmm; try simp -dsimp [mergeO, emb, hs]) | (refine DT_regionM (id := 4) (nt := 76) 7 [0,1,2,3,4,6,7,8,9,10,12,13,20,29,37,38,39,40,69] mixed rfl (by kernel_rfl) ?_; simp -dsimp [hs]) | (with_reducible refine DT_regionN (id := 6) (nt := 76) [0,1,2,3,4,6,7,8,9,10,12,13,20,29,37,38,39,40,69] rfl ?_; simp -dsimp [hs]) | (with_reducible refine DT_regionE [0,1,2,3,4,6,7,8,9,10,12,13,20,29,37,38,39,40,69] ?_; simp -dsimp [hs]) | (refine DT_cond rfl (fun h => ?_) (fun h => ?_) <;> (try simp only [nrm] at h) <;> (try exact Bool.noConfusion h))
  all_goals try simp -dsimp [hs]
  all_goals try clear hs
  obtain ⟨g6, nl6⟩ := mm
  obtain rfl : nl6 = false := by cases nl6 with
    | false => rfl
    | true => exact absurd (hmm rfl) hne
  refine DT_loop (ι := { p : Nat × Nat × Nat × Bool // p.1 ≤ n.reg.length ∧ ((p.2.2.1 = 5 ∧ p.2.2.2 = false) ∨ (p.2.2.1 = 0 ∧ p.2.2.2 = true ∧ p.1 = 0)) }) (fun p => ⟨76, [(2, bv b), (4, .one (.ptr 1 0)), (6, .one (.ptr 4 0)), (7, iv 0), (10, .one (.ptr 11 0)), (37, .one (.im (.sl (n.reg.map encIssue)))), (38, iv (n.reg.length : Int)), (39, iv (p.1.1 : Int))], [.row ((encNotes n).map .im), .row [.im (rI a)], .vec 0 [] 0 true, .vec 0 [] 0 true, .row [.vec 2 0 0 0, .vec 3 0 0 0], .vec 10 [] 0 true, .vec 10 (ims (n.notes.map encNote)) g6 false, .vec p.1.2.2.1 (ims ((n.reg.take p.1.1).map encIssue)) p.1.2.1 p.1.2.2.2, .vec 0 [] 0 true, .vec 0 [] 0 true, .vec 0 [] 0 true, .row [.vec 7 p.1.2.1 0 p.1.1, .vec 6 g6 0 n.notes.length]]⟩) (fun p => n.reg.length - p.1.1) ⟨(0, 0, 0, true), by simp⟩ (Weak.of_keep [2,4,6,7,10,37,38,39] (by simp)) ?_
  rintro ⟨⟨k, g, sz, nl⟩, hk, hz⟩
  simp only at hk hz
  simp only [iv, bv]
  by_cases hlt : k < n.reg.length
  · have hw : IntKind.i64.wrap ((k : Int) + 1) = ((k + 1 : Nat) : Int) := i64w (by omega) (by omega)
    have hst : n.reg.take (k + 1) = n.reg.take k ++ [n.reg[k]] := List.take_succ_eq_append_getElem hlt
    have hkl : (n.reg.take k).length = k := by simp; omega
    have hxs : n.reg[k]? = some n.reg[k] := List.getElem?_eq_getElem hlt
    have hix := hit n.reg[k] (List.getElem_mem hlt)
    generalize hx : n.reg[k] = x at *
    have c6 := clone_itm (G := G) x.items hix.1
    have c7 := clone_dim (G := G) x.dims hix.2
    have hm : (n.reg.take (k + 1)).map encIssue = (n.reg.take k).map encIssue ++ [encIssue x] := by rw [hst]; simp
    have hml : ((n.reg.take k).map encIssue).length = k := by rw [List.length_map]; exact hkl
    generalize (n.reg.take k).map encIssue = L at *
    rcases hz with ⟨rfl, rfl⟩ | ⟨rfl, rfl, rfl⟩
    · subst hml
      have hs : True := trivial
      repeat' first | (with_reducible first | refine q01 ?_ | refine q04 ?_ | refine q11 ?_ | refine q12 ?_ | refine q14 ?_ | refine And.intro (by omega) ?_) | (refine QCall_pure (c6) ?_; try simp -dsimp [hx, hlt, hxs, hw, hs]) | (refine QCall_pure (c7) ?_; try simp -dsimp [hx, hlt, hxs, hw, hs]) | (refine DT_regionM (id := 10) (nt := 76) 7 [0,1,2,3,4,6,7,8,9,10,12,13,20,29,37,38,39,40,69] mixed rfl (by kernel_rfl) ?_; simp -dsimp [hx, hlt, hxs, hw, hs]) | (with_reducible refine DT_regionE [0,1,2,3,4,6,7,8,9,10,12,13,20,29,37,38,39,40,69] ?_; simp -dsimp [hx, hlt, hxs, hw, hs]) | (refine DT_cond rfl (fun h => ?_) (fun h => ?_) <;> (try simp only [nrm] at h) <;> (try exact Bool.noConfusion h))
      all_goals try simp -dsimp [hx, hlt, hxs, hw, hs]
      all_goals try clear hs
      all_goals exact At.round ⟨(L.length + 1, g + 1, 5, false), by omega, .inl ⟨rfl, rfl⟩⟩ (by simp only; omega) (Weak.of_drop [2,4,6,7,10,37,38,39] 12 (by simp) (by simp) (by simp [hm, show List.take L.length (ims L) = ims L from List.take_of_length_le (by simp)]))
    · obtain rfl := List.eq_nil_of_length_eq_zero hml
      have hw1 : IntKind.i64.wrap 1 = 1 := i64w (by omega) (by omega)
      have hs : True := trivial
      repeat' first | (with_reducible first | refine q01 ?_ | refine q04 ?_ | refine q11 ?_ | refine q12 ?_ | refine q14 ?_) | (refine QCall_pure (c6) ?_; try simp -dsimp [hx, hlt, hxs, hw, hw1, hs]) | (refine QCall_pure (c7) ?_; try simp -dsimp [hx, hlt, hxs, hw, hw1, hs]) | (refine DT_regionM (id := 10) (nt := 76) 7 [0,1,2,3,4,6,7,8,9,10,12,13,20,29,37,38,39,40,69] mixed rfl (by kernel_rfl) ?_; simp -dsimp [hx, hlt, hxs, hw, hw1, hs]) | (with_reducible refine DT_regionE [0,1,2,3,4,6,7,8,9,10,12,13,20,29,37,38,39,40,69] ?_; simp -dsimp [hx, hlt, hxs, hw, hw1, hs]) | (refine DT_cond rfl (fun h => ?_) (fun h => ?_) <;> (try simp only [nrm] at h) <;> (try exact Bool.noConfusion h))
      all_goals try simp -dsimp [hx, hlt, hxs, hw, hw1, hs]
      all_goals try clear hs
      all_goals exact At.round ⟨(1, g + 1, 5, false), by omega, .inl ⟨rfl, rfl⟩⟩ (by simp only; omega) (Weak.of_drop [2,4,6,7,10,37,38,39] 12 (by simp) (by simp) (by simp [hm, hw1]))
  · obtain rfl : k = n.reg.length := by omega
    rw [List.take_length]
    cases b
    · have hs : True := trivial
      repeat' first | (with_reducible first | refine q01 ?_ | refine q03 ?_ | refine q06 ?_ | refine q11 ?_ | refine q14 ?_ | refine q16 ?_ | refine q17 ?_) | (with_reducible refine At.fn_ret (by simp -dsimp [hlt, hk0, hx0, hx0e, hs]; exact rfl) ?_) | (refine CallE.thaw (c5) ?_ ?_ ?_; (focus (simp; done)); (focus (simp; done)); try simp -dsimp [hlt, hk0, hx0, hx0e, hs]) | (with_reducible refine DT_regionE [0,1,2,3,4,6,7,8,9,10,12,13,20,29,37,38,39,40,69] ?_; simp -dsimp [hlt, hk0, hx0, hx0e, hs]) | (refine DT_cond rfl (fun h => ?_) (fun h => ?_) <;> (try simp only [nrm] at h) <;> (try exact Bool.noConfusion h))
      all_goals try simp -dsimp [hlt, hk0, hx0, hx0e, hs]
      all_goals try clear hs
      all_goals exact ⟨(g6, g, sz, nl), trivial, rfl, by
          have hV : ims ((settleL n a false).map encNote) = (ims (n.notes.map encNote)).set k0 ((encNote (sgn x0 0)).map .im) := by rw [hL, List.map_set, imsSet]; rfl
          rw [hV]; rfl⟩
    · have hs : True := trivial
      repeat' first | (with_reducible first | refine q01 ?_ | refine q03 ?_ | refine q06 ?_ | refine q11 ?_ | refine q16 ?_ | refine q17 ?_) | (with_reducible refine At.fn_ret (by simp -dsimp [hlt, hk0, hx0, hx0e, hs]; exact rfl) ?_) | (refine CallE.thaw (c5) ?_ ?_ ?_; (focus (simp; done)); (focus (simp; done)); try simp -dsimp [hlt, hk0, hx0, hx0e, hs]) | (with_reducible refine DT_regionE [0,1,2,3,4,6,7,8,9,10,12,13,20,29,37,38,39,40,69] ?_; simp -dsimp [hlt, hk0, hx0, hx0e, hs]) | (refine DT_cond rfl (fun h => ?_) (fun h => ?_) <;> (try simp only [nrm] at h) <;> (try exact Bool.noConfusion h))
      all_goals try simp -dsimp [hlt, hk0, hx0, hx0e, hs]
      all_goals try clear hs
      all_goals exact ⟨(g6, g, sz, nl), trivial, rfl, by
          have hV : ims ((settleL n a true).map encNote) = (ims (n.notes.map encNote)).set k0 ((encNote (sgn x0 2)).map .im) := by rw [hL, List.map_set, imsSet]; rfl
          rw [hV]; rfl⟩
end Go.Proofs
namespace Go.Proofs
open Go Go.Ab
set_option linter.unusedSimpArgs false
variable {G : Nat → Option (List IC)}
theorem nSettle_c (n : Notes) (a : Int) (b : Bool) (hG : sheetG G) (hN : noteG G) (hS : SortOk G) (hsn : SmallN n) (hs : NSm n) (objs : List DObj) : DCall Tryz.prog G 24 [notesv n, iv a, bv b] objs (fun rr objs' => rr = .tup [notesv (settleN n a b), iv (settleE n a)] ∧ objs' = objs) := by
  by_cases h0 : settleE n a = 0
  · have h := nSettleS_c n a b hG hN hS hsn hs h0
    have hN2 : settleN n a b = ⟨n.reg, settleL n a b⟩ := by unfold settleN; rw [if_pos h0]
    have hll : (settleL n a b).length = n.notes.length := setSg_len _ _ _
    rw [h0, hN2]
    refine DCall.frame (DCall.mono h ?_) (by simp) (by simp) objs
    rintro d o ⟨⟨g6, g7, sz, nl⟩, _, rfl, rfl⟩
    rw [← hll]
    generalize settleL n a b = N2 at *
    simp
  · have hN2 : settleN n a b = ⟨[], []⟩ := by unfold settleN; rw [if_neg h0]
    rw [hN2]
    exact nSettleE_c n a b hG hN hS hs h0 objs
end Go.Proofs
namespace Go.Proofs
open Go Go.Ab
set_option linter.unusedSimpArgs false
variable {G : Nat → Option (List IC)}
end Go.Proofs
namespace Go.Proofs
open Go Go.Ab
set_option linter.unusedSimpArgs false
variable {G : Nat → Option (List IC)}
theorem sameStr_c (l : List Str) (hl : l.length < 1000000) (objs : List DObj) : DCall Tryz.prog G 45 [strv l, strv l] objs (fun rr objs' => rr = bv true ∧ objs' = objs) := by
  refine DCall.frame ?_ (by simp) (by simp) objs
  refine DCall_intro Tryz.func45 rfl Tryz.ntmps45 (by simp) rfl ?_
  try simp only [iv]
  simp only [strv, bv]
  have hs : True := trivial
  repeat' first | (with_reducible first | refine q01 ?_ | refine q11 ?_ | refine q12 ?_ | refine q14 ?_) | (with_reducible refine DT_regionE [0,1,4,5,10,14,25] ?_; simp -dsimp [hs]) | (refine DT_cond rfl (fun h => ?_) (fun h => ?_) <;> (try simp only [nrm] at h) <;> (try exact Bool.noConfusion h))
  all_goals try simp -dsimp [hs]
  all_goals try clear hs
  refine DT_loop (ι := { k : Nat // k ≤ l.length }) (fun p => ⟨26, [(0, strv l), (1, strv l), (5, iv (p.1 : Int))], []⟩) (fun p => l.length - p.1) ⟨0, by simp⟩ (Weak.of_keep [0,1,5] (by simp)) ?_
  rintro ⟨k, hk⟩
  simp only [iv, strv]
  by_cases hlt : k < l.length
  · have hw : IntKind.i64.wrap ((k : Int) + 1) = ((k + 1 : Nat) : Int) := i64w (by omega) (by omega)
    generalize hx : l[k] = x
    have hs : True := trivial
    repeat' first | (with_reducible first | refine q01 ?_ | refine q04 ?_ | refine q11 ?_ | refine q12 ?_ | refine q14 ?_) | (refine DT_regionM (id := 6) (nt := 26) 9 [0,1,4,5,10,14,25] mixed rfl (by kernel_rfl) ?_; simp -dsimp [hx, hlt, hw, hs]) | (with_reducible refine DT_regionE [0,1,4,5,10,14,25] ?_; simp -dsimp [hx, hlt, hw, hs]) | (refine DT_cond rfl (fun h => ?_) (fun h => ?_) <;> (try simp only [nrm] at h) <;> (try exact Bool.noConfusion h))
    all_goals try simp -dsimp [hx, hlt, hw, hs]
    all_goals try clear hs
    exact At.round ⟨k + 1, by omega⟩ (by simp; omega) (Weak.of_keep [0,1,5] (by simp))
  · have hs : True := trivial
    repeat' first | (with_reducible first | refine q01 ?_ | refine q03 ?_ | refine q06 ?_ | refine q11 ?_ | refine q16 ?_ | refine q17 ?_) | (with_reducible refine At.fn_ret (by simp -dsimp [hlt, hs]; exact rfl) ?_) | (with_reducible refine DT_regionE [0,1,4,5,10,14,25] ?_; simp -dsimp [hlt, hs]) | (refine DT_cond rfl (fun h => ?_) (fun h => ?_) <;> (try simp only [nrm] at h) <;> (try exact Bool.noConfusion h))
    all_goals try simp -dsimp [hlt, hs]
    all_goals try clear hs
end Go.Proofs
namespace Go.Proofs
open Go Go.Ab
set_option linter.unusedSimpArgs false
variable {G : Nat → Option (List IC)}
end Go.Proofs
namespace Go.Proofs
open Go Go.Ab
set_option linter.unusedSimpArgs false
variable {G : Nat → Option (List IC)}
set_option maxRecDepth 4000 in
set_option maxHeartbeats 8000000 in
theorem clash_c (n : Notes) (s w : List Int) (hS : SortOk G) (hok : allOk n) (hl : n.notes.length ≤ 16) (hsl : s.length < 1000) (hwl : w.length < 1000) (objs : List DObj) : DCall Tryz.prog G 71 [.one (.im (fileI n)), isv s, isv w] objs (fun rr objs' => rr = prv (clashL n s w) ∧ objs' = objs) := by
  refine DCall.frame ?_ (by simp) (by simp) objs
  refine DCall_intro Tryz.func71 rfl Tryz.ntmps71 (by simp) rfl ?_
  try simp only [isv, isv]
  have c1 := marks_c n hS (by omega) (fun x hx => by have := nk3_of hok hx; omega)
  have c2 := fun m => force_c (G := G) n s w m
  have hml := marks_len n.notes
  simp only [fileI] at c1 ⊢
  simp only [frcObjs, frcCaps, fileI, iv, isv, bv, rI, List.map_cons, List.map_nil, encMB] at c2
  have hs : True := trivial
  repeat' first | (with_reducible first | refine q01 ?_ | refine q11 ?_ | refine q12 ?_) | (refine CallE.pure (c1) ?_; try simp -dsimp [hs]) | (with_reducible refine DT_regionE [0,1,2,6,7,9,10,11,12,13,14,15,16,17,20,21,22,23,36,37,38,40,41,42,51,63,64,65,66,74,75,76,77,104] ?_; simp -dsimp [hs])
  all_goals try simp -dsimp [hs]
  all_goals try clear hs
  generalize hMs : marksP n.notes = Ms at *
  refine DT_loop (ι := { p : Nat × List (Int × Int) // p.1 ≤ Ms.length ∧ ∀ m, Bspec n s w (Ms.take p.1) m 0 0 p.2 }) (fun p => ⟨116, [(0, .one (.im (.ip [.sl (n.reg.map encIssue), .sl (n.notes.map encNote), .sl ((nums n.reg).map encI), .sl ((isort (openL n.notes)).map encI)]))), (1, isv s), (2, isv w), (7, .one (.map 1)), (20, isv Ms), (21, iv (Ms.length : Int)), (22, iv (p.1.1 : Int))], [.vec 2 [] 0 true, .map [.int .i64, .int .i64] (encPS p.1.2)]⟩) (fun p => Ms.length - p.1.1) ⟨(0, []), by simp, fun m => Bspec.start n s w m⟩ (Weak.of_keep [0,1,2,7,20,21,22] (by simp [encPS])) ?_
  rintro ⟨⟨j, B⟩, hj, hB⟩
  simp only at hj hB
  simp only [iv, isv]
  by_cases hlt : j < Ms.length
  · have hw : IntKind.i64.wrap ((j : Int) + 1) = ((j + 1 : Nat) : Int) := i64w (by omega) (by omega)
    have htk : Ms.take (j + 1) = Ms.take j ++ [Ms[j]] := List.take_succ_eq_append_getElem hlt
    generalize hm : Ms[j] = m at *
    have c3 := c2 m
    have hs : True := trivial
    repeat' first | (with_reducible first | refine q01 ?_ | refine q11 ?_ | refine q12 ?_ | refine q14 ?_) | (refine CallE.embed [] (c3) ?_ ?_ ?_ ?_ ?_ ?_; (focus (simp [emb]; done)); (focus (simp; done)); (focus (simp; done)); (focus (simp; done)); (focus (refine emb_all ?_; simp [emb, embAll]; done)); try simp -dsimp [mergeO, emb, hm, hlt, hs]) | (with_reducible refine DT_regionE [0,1,2,6,7,9,10,11,12,13,14,15,16,17,20,21,22,23,36,37,38,40,41,42,51,63,64,65,66,74,75,76,77,104] ?_; simp -dsimp [hm, hlt, hs]) | (refine DT_cond rfl (fun h => ?_) (fun h => ?_) <;> (try simp only [nrm] at h) <;> (try exact Bool.noConfusion h))
    all_goals try simp -dsimp [hm, hlt, hs]
    all_goals try clear hs
    refine DT_loop (ι := { p : Nat × List (Int × Int) × List (Int × Bool) // p.1 ≤ n.notes.length ∧ ConsM n s w m p.2.2 ∧ Bspec n s w (Ms.take j) m p.1 0 p.2.1 }) (fun p => ⟨116, [(0, .one (.im (.ip [.sl (n.reg.map encIssue), .sl (n.notes.map encNote), .sl ((nums n.reg).map encI), .sl ((isort (openL n.notes)).map encI)]))), (1, isv s), (2, isv w), (7, .one (.map 1)), (10, .one (.fn (.func 87) [.ptr 7 0, .ptr 2 0, .ptr 3 0, .ptr 4 0, .ptr 5 0, .ptr 8 0])), (20, isv Ms), (21, iv (Ms.length : Int)), (22, iv (j : Int)), (36, iv (n.notes.length : Int)), (37, iv (p.1.1 : Int))], [.vec 2 [] 0 true, .map [.int .i64, .int .i64] (encPS p.1.2.1)] ++ [.row [.im (.ip [.sl (n.reg.map encIssue), .sl (n.notes.map encNote), .sl ((nums n.reg).map encI), .sl ((isort (openL n.notes)).map encI)])], .row [.im (.sl (s.map encI))], .row [.im (.sl (w.map encI))], .row [.im (rI m)], .map [.int .i64] (encMB p.1.2.2), .row [.map 6], .row [.fn (.func 87) [.ptr 7 0, .ptr 2 0, .ptr 3 0, .ptr 4 0, .ptr 5 0, .ptr 8 0]]]⟩) (fun p => n.notes.length - p.1.1) ⟨(0, B, []), by simp, ConsM.nil _ _ _ _, hB m⟩ (Weak.of_keep [0,1,2,7,10,20,21,22,36,37] (by simp [encMB])) ?_
    rintro ⟨⟨i, B2, M⟩, hi, hM, hB2⟩
    simp only at hi hM hB2
    simp only [iv, isv]
    by_cases hli : i < n.notes.length
    · have hwi : IntKind.i64.wrap ((i : Int) + 1) = ((i + 1 : Nat) : Int) := i64w (by omega) (by omega)
      have hs : True := trivial
      repeat' first | (with_reducible first | refine q01 ?_ | refine q11 ?_ | refine q12 ?_ | refine q14 ?_) | (with_reducible refine DT_regionE [0,1,2,6,7,9,10,11,12,13,14,15,16,17,20,21,22,23,36,37,38,40,41,42,51,63,64,65,66,74,75,76,77,104] ?_; simp -dsimp [hli, hs]) | (refine DT_cond rfl (fun h => ?_) (fun h => ?_) <;> (try simp only [nrm] at h) <;> (try exact Bool.noConfusion h))
      all_goals try simp -dsimp [hli, hs]
      all_goals try clear hs
      refine DT_loop (ι := { p : Nat × List (Int × Int) × List (Int × Bool) // p.1 ≤ i ∧ ConsM n s w m p.2.2 ∧ Bspec n s w (Ms.take j) m i p.1 p.2.1 }) (fun p => ⟨116, [(0, .one (.im (.ip [.sl (n.reg.map encIssue), .sl (n.notes.map encNote), .sl ((nums n.reg).map encI), .sl ((isort (openL n.notes)).map encI)]))), (1, isv s), (2, isv w), (7, .one (.map 1)), (10, .one (.fn (.func 87) [.ptr 7 0, .ptr 2 0, .ptr 3 0, .ptr 4 0, .ptr 5 0, .ptr 8 0])), (11, iv (i : Int)), (20, isv Ms), (21, iv (Ms.length : Int)), (22, iv (j : Int)), (36, iv (n.notes.length : Int)), (37, iv (i : Int)), (40, iv (i : Int)), (41, iv (p.1.1 : Int))], [.vec 2 [] 0 true, .map [.int .i64, .int .i64] (encPS p.1.2.1)] ++ [.row [.im (.ip [.sl (n.reg.map encIssue), .sl (n.notes.map encNote), .sl ((nums n.reg).map encI), .sl ((isort (openL n.notes)).map encI)])], .row [.im (.sl (s.map encI))], .row [.im (.sl (w.map encI))], .row [.im (rI m)], .map [.int .i64] (encMB p.1.2.2), .row [.map 6], .row [.fn (.func 87) [.ptr 7 0, .ptr 2 0, .ptr 3 0, .ptr 4 0, .ptr 5 0, .ptr 8 0]]]⟩) (fun p => i - p.1.1) ⟨(0, B2, M), by simp, hM, hB2⟩ (Weak.of_keep [0,1,2,7,10,11,20,21,22,36,37,40,41] (by simp)) ?_
      rintro ⟨⟨k, B3, M3⟩, hk, hM3, hB3⟩
      simp only at hk hM3 hB3
      simp only [iv, isv]
      by_cases hlk : k < i
      · have hwk : IntKind.i64.wrap ((k : Int) + 1) = ((k + 1 : Nat) : Int) := i64w (by omega) (by omega)
        have c4 := is_c (G := G) n s w m (by omega) hsl hwl n.notes.length i (by omega) hli M3 hM3
        have c5 := fun M hM => is_c (G := G) n s w m (by omega) hsl hwl n.notes.length k (by omega) (by omega) M hM
        have hput := fun h => hB3.put hlk hli h
        have hskip := fun h => hB3.skip (k := k) h
        simp only [frcObjs, frcCaps, fileI, iv, bv, rI, List.map_cons, List.map_nil] at c4 c5
        cases hfi : frcAt n s w m i
        · rw [hfi] at c4
          have hsk := hskip (by rw [hfi]; simp)
          have hs : True := trivial
          repeat' first | (with_reducible first | refine q01 ?_ | refine q04 ?_ | refine q11 ?_ | refine q12 ?_ | refine q14 ?_) | (refine CallE.embed_ex [2,3,4,5,6,7,8] (c4) ?_ ?_ ?_ ?_ ?_ ?_; (focus (simp [emb]; done)); (focus (simp; done)); (focus (simp; done)); (focus (simp; done)); (focus (refine emb_all ?_; simp [emb, embAll]; done)); intro mm hmm; try simp -dsimp [mergeO, emb, hlk, hwk, hs]) | (with_reducible refine DT_regionE [0,1,2,6,7,9,10,11,12,13,14,15,16,17,20,21,22,23,36,37,38,40,41,42,51,63,64,65,66,74,75,76,77,104] ?_; simp -dsimp [hlk, hwk, hs]) | (refine DT_cond rfl (fun h => ?_) (fun h => ?_) <;> (try simp only [nrm] at h) <;> (try exact Bool.noConfusion h))
          all_goals try simp -dsimp [hlk, hwk, hs]
          all_goals try clear hs
          all_goals exact At.round ⟨(k + 1, B3, mm), by simp only; omega, hmm, hsk⟩ (by simp only; omega) (Weak.of_drop [0,1,2,7,10,11,20,21,22,36,37,40,41] 9 (by simp) (by simp) (by simp))
        · cases hfk : frcAt n s w m k
          · rw [hfi] at c4
            simp only [hfk] at c5
            have hsk := hskip (by rw [hfk]; simp)
            have hs : True := trivial
            repeat' first | (with_reducible first | refine q01 ?_ | refine q04 ?_ | refine q11 ?_ | refine q12 ?_ | refine q14 ?_) | (refine CallE.embed_ex [2,3,4,5,6,7,8] (c4) ?_ ?_ ?_ ?_ ?_ ?_; (focus (simp [emb]; done)); (focus (simp; done)); (focus (simp; done)); (focus (simp; done)); (focus (refine emb_all ?_; simp [emb, embAll]; done)); intro mma hmma; try simp -dsimp [mergeO, emb, hlk, hwk, hs]) | (refine CallE.embed_ex [2,3,4,5,6,7,8] (c5 mma hmma) ?_ ?_ ?_ ?_ ?_ ?_; (focus (simp [emb]; done)); (focus (simp; done)); (focus (simp; done)); (focus (simp; done)); (focus (refine emb_all ?_; simp [emb, embAll]; done)); intro mm hmm; try simp -dsimp [mergeO, emb, hlk, hwk, hs]) | (with_reducible refine DT_regionE [0,1,2,6,7,9,10,11,12,13,14,15,16,17,20,21,22,23,36,37,38,40,41,42,51,63,64,65,66,74,75,76,77,104] ?_; simp -dsimp [hlk, hwk, hs]) | (refine DT_cond rfl (fun h => ?_) (fun h => ?_) <;> (try simp only [nrm] at h) <;> (try exact Bool.noConfusion h))
            all_goals try simp -dsimp [hlk, hwk, hs]
            all_goals try clear hs
            all_goals exact At.round ⟨(k + 1, B3, mm), by simp only; omega, hmm, hsk⟩ (by simp only; omega) (Weak.of_drop [0,1,2,7,10,11,20,21,22,36,37,40,41] 9 (by simp) (by simp) (by simp))
          · rw [hfi] at c4
            simp only [hfk] at c5
            have hpt := hput ⟨hfi, hfk⟩
            have hs : True := trivial
            repeat' first | (with_reducible first | refine q01 ?_ | refine q04 ?_ | refine q11 ?_ | refine q12 ?_ | refine q14 ?_) | (refine CallE.embed_ex [2,3,4,5,6,7,8] (c4) ?_ ?_ ?_ ?_ ?_ ?_; (focus (simp [emb]; done)); (focus (simp; done)); (focus (simp; done)); (focus (simp; done)); (focus (refine emb_all ?_; simp [emb, embAll]; done)); intro mma hmma; try simp -dsimp [mergeO, emb, hlk, hwk, hs]) | (refine CallE.embed_ex [2,3,4,5,6,7,8] (c5 mma hmma) ?_ ?_ ?_ ?_ ?_ ?_; (focus (simp [emb]; done)); (focus (simp; done)); (focus (simp; done)); (focus (simp; done)); (focus (refine emb_all ?_; simp [emb, embAll]; done)); intro mm hmm; try simp -dsimp [mergeO, emb, hlk, hwk, hs]) | (with_reducible refine DT_regionE [0,1,2,6,7,9,10,11,12,13,14,15,16,17,20,21,22,23,36,37,38,40,41,42,51,63,64,65,66,74,75,76,77,104] ?_; simp -dsimp [hlk, hwk, hs]) | (refine DT_cond rfl (fun h => ?_) (fun h => ?_) <;> (try simp only [nrm] at h) <;> (try exact Bool.noConfusion h))
            all_goals try simp -dsimp [hlk, hwk, hs]
            all_goals try clear hs
            all_goals exact At.round ⟨(k + 1, pput ((k : Int), (i : Int)) B3, mm), by simp only; omega, hmm, hpt⟩ (by simp only; omega) (Weak.of_drop [0,1,2,7,10,11,20,21,22,36,37,40,41] 9 (by simp) (by simp) (by simp))
      · obtain rfl : k = i := by omega
        have hrow := hB3.row
        have hs : True := trivial
        repeat' first | (with_reducible first | refine q01 ?_ | refine q03 ?_ | refine q04 ?_ | refine q06 ?_ | refine q11 ?_ | refine q16 ?_) | (with_reducible refine DT_regionE [0,1,2,6,7,9,10,11,12,13,14,15,16,17,20,21,22,23,36,37,38,40,41,42,51,63,64,65,66,74,75,76,77,104] ?_; simp -dsimp [hlk, hwi, hs]) | (refine DT_cond rfl (fun h => ?_) (fun h => ?_) <;> (try simp only [nrm] at h) <;> (try exact Bool.noConfusion h))
        all_goals try simp -dsimp [hlk, hwi, hs]
        all_goals try clear hs
        all_goals exact At.round ⟨(k + 1, B3, M3), by simp only; omega, hM3, hrow⟩ (by simp only; omega) (Weak.of_drop [0,1,2,7,10,20,21,22,36,37] 9 (by simp) (by simp) (by simp))
    · obtain rfl : i = n.notes.length := by omega
      have hmk := fun m' => hB2.mark (m' := m')
      have hs : True := trivial
      repeat' first | (with_reducible first | refine q01 ?_ | refine q03 ?_ | refine q04 ?_ | refine q06 ?_ | refine q11 ?_ | refine q16 ?_) | (with_reducible refine DT_regionE [0,1,2,6,7,9,10,11,12,13,14,15,16,17,20,21,22,23,36,37,38,40,41,42,51,63,64,65,66,74,75,76,77,104] ?_; simp -dsimp [hli, hw, hs]) | (refine DT_cond rfl (fun h => ?_) (fun h => ?_) <;> (try simp only [nrm] at h) <;> (try exact Bool.noConfusion h))
      all_goals try simp -dsimp [hli, hw, hs]
      all_goals try clear hs
      all_goals exact At.round ⟨(j + 1, B2), by simp only; omega, fun m' => by rw [htk]; exact hmk m'⟩ (by simp only; omega) (Weak.of_drop [0,1,2,7,20,21,22] 2 (by simp) (by simp) (by simp))
  · obtain rfl : j = Ms.length := by omega
    rw [List.take_length, ← hMs] at hB
    have hboth := fun a b hb => (hB 0).both (a := a) (b := b) hb
    have hs : True := trivial
    repeat' first | (with_reducible first | refine q01 ?_ | refine q03 ?_ | refine q06 ?_ | refine q11 ?_ | refine q12 ?_ | refine q16 ?_) | (with_reducible refine DT_regionE [0,1,2,6,7,9,10,11,12,13,14,15,16,17,20,21,22,23,36,37,38,40,41,42,51,63,64,65,66,74,75,76,77,104] ?_; simp -dsimp [hlt, hs]) | (refine DT_cond rfl (fun h => ?_) (fun h => ?_) <;> (try simp only [nrm] at h) <;> (try exact Bool.noConfusion h))
    all_goals try simp -dsimp [hlt, hs]
    all_goals try clear hs
    refine DT_loop (ι := { p : Nat × Nat × Bool // p.1 ≤ n.notes.length }) (fun p => ⟨116, [(0, .one (.im (.ip [.sl (n.reg.map encIssue), .sl (n.notes.map encNote), .sl ((nums n.reg).map encI), .sl ((isort (openL n.notes)).map encI)]))), (7, .one (.map 1)), (13, .one (.vec 2 p.1.2.1 0 (clTo n s w p.1.1).length)), (63, .one (.im (.sl (n.notes.map encNote)))), (64, iv (n.notes.length : Int)), (65, iv (p.1.1 : Int))], [.vec 2 [] 0 true, .map [.int .i64, .int .i64] (encPS B), .vec 2 (ims ((clTo n s w p.1.1).map encPr)) p.1.2.1 p.1.2.2]⟩) (fun p => n.notes.length - p.1.1) ⟨(0, 0, true), by simp⟩ (Weak.of_keep [0,7,13,63,64,65] (by simp [clTo])) ?_
    rintro ⟨⟨a, g, nl⟩, ha⟩
    simp only at ha
    simp only [iv]
    have hTl := clTo_len n s w a
    have hTl2 : a * n.notes.length ≤ 16 * 16 := Nat.mul_le_mul (by omega) hl
    by_cases hla : a < n.notes.length
    · have hwa : IntKind.i64.wrap ((a : Int) + 1) = ((a + 1 : Nat) : Int) := i64w (by omega) (by omega)
      have hsa := clTo_succ n s w a
      have hna : numAt n.notes a = n.notes[a].number := by simp [numAt, hla]
      have hxo : n.notes[a]? = some n.notes[a] := by simp [hla]
      generalize hx : n.notes[a] = x at *
      generalize clTo n s w a = T at *
      have hs : True := trivial
      repeat' first | (with_reducible first | refine q01 ?_ | refine q11 ?_ | refine q12 ?_ | refine q14 ?_) | (with_reducible refine DT_regionE [0,1,2,6,7,9,10,11,12,13,14,15,16,17,20,21,22,23,36,37,38,40,41,42,51,63,64,65,66,74,75,76,77,104] ?_; simp -dsimp [hx, hla, hs]) | (refine DT_cond rfl (fun h => ?_) (fun h => ?_) <;> (try simp only [nrm] at h) <;> (try exact Bool.noConfusion h))
      all_goals try simp -dsimp [hx, hla, hs]
      all_goals try clear hs
      refine DT_loop (ι := { p : Nat × Nat × Bool // p.1 ≤ n.notes.length }) (fun p => ⟨116, [(0, .one (.im (.ip [.sl (n.reg.map encIssue), .sl (n.notes.map encNote), .sl ((nums n.reg).map encI), .sl ((isort (openL n.notes)).map encI)]))), (7, .one (.map 1)), (13, .one (.vec 2 p.1.2.1 0 (T ++ clRow n s w a p.1.1).length)), (14, iv (a : Int)), (15, .one (.ptr 3 0)), (63, .one (.im (.sl (n.notes.map encNote)))), (64, iv (n.notes.length : Int)), (65, iv (a : Int)), (74, .one (.im (.sl (n.notes.map encNote)))), (75, iv (n.notes.length : Int)), (76, iv (p.1.1 : Int))], [.vec 2 [] 0 true, .map [.int .i64, .int .i64] (encPS B), .vec 2 (ims ((T ++ clRow n s w a p.1.1).map encPr)) p.1.2.1 p.1.2.2, .row ((encNote x).map .im)]⟩) (fun p => n.notes.length - p.1.1) ⟨(0, g, nl), by simp⟩ (Weak.of_keep [0,7,13,14,15,63,64,65,74,75,76] (by simp [clRow])) ?_
      rintro ⟨⟨b, g2, nl2⟩, hb⟩
      simp only at hb
      simp only [iv]
      have hRl := clRow_len n s w a b
      by_cases hlb : b < n.notes.length
      · have hwb : IntKind.i64.wrap ((b : Int) + 1) = ((b + 1 : Nat) : Int) := i64w (by omega) (by omega)
        have hsb := clRow_succ n s w a b
        have hnb : numAt n.notes b = n.notes[b].number := by simp [numAt, hlb]
        have hyo : n.notes[b]? = some n.notes[b] := by simp [hlb]
        have hbo := hboth a b hlb
        have hck : clOk n s w a b = (decide (((a : Int), (b : Int)) ∈ B) && (decide (x.drawing ≠ 0) && decide (x.drawing = n.notes[b].drawing) && decide (n.notes[b].letter < x.letter))) := by
          rw [hbo, clOk, hxo, hyo]
        generalize hy : n.notes[b] = y at *
        rw [hna, hnb] at hsb
        have hTR : (T ++ clRow n s w a b).length ≤ 500 := by rw [List.length_append]; omega
        have hsb2 : T ++ clRow n s w a (b + 1) = (T ++ clRow n s w a b) ++ (if clOk n s w a b = true then [(x.number, y.number)] else []) := by
          rw [hsb, ← List.append_assoc]
        clear hsb
        generalize T ++ clRow n s w a b = R at *
        cases hq : decide (((a : Int), (b : Int)) ∈ B)
        · have hq' : ¬ ((a : Int), (b : Int)) ∈ B := by simpa using hq
          rw [hq] at hck
          rw [hck, Bool.false_and, if_neg Bool.false_ne_true, List.append_nil] at hsb2
          have hs : True := trivial
          repeat' first | (with_reducible first | refine q01 ?_ | refine q04 ?_ | refine q11 ?_ | refine q12 ?_ | refine q14 ?_) | (with_reducible refine DT_regionE [0,1,2,6,7,9,10,11,12,13,14,15,16,17,20,21,22,23,36,37,38,40,41,42,51,63,64,65,66,74,75,76,77,104] ?_; simp -dsimp [hy, hlb, hwb, hq', hs]) | (refine DT_cond rfl (fun h => ?_) (fun h => ?_) <;> (try simp only [nrm] at h) <;> (try exact Bool.noConfusion h))
          all_goals try simp -dsimp [hy, hlb, hwb, hq', hs]
          all_goals try clear hs
          all_goals exact At.round ⟨(b + 1, g2, nl2), by simp only; omega⟩ (by simp only; omega) (Weak.of_drop [0,7,13,14,15,63,64,65,74,75,76] 4 (by simp) (by simp) (by simp [hsb2]))
        · have hq' : ((a : Int), (b : Int)) ∈ B := by simpa using hq
          rw [hq, Bool.true_and] at hck
          have hs : True := trivial
          repeat' first | (with_reducible first | refine q01 ?_ | refine q04 ?_ | refine q11 ?_ | refine q12 ?_ | refine q14 ?_ | refine And.intro (by omega) ?_) | (with_reducible refine DT_regionE [0,1,2,6,7,9,10,11,12,13,14,15,16,17,20,21,22,23,36,37,38,40,41,42,51,63,64,65,66,74,75,76,77,104] ?_; simp -dsimp [hy, hlb, hwb, hq', hs]) | (refine DT_cond rfl (fun h => ?_) (fun h => ?_) <;> (try simp only [nrm] at h) <;> (try exact Bool.noConfusion h)) | (with_reducible refine GStop_split ?_ ?_ <;> intro h <;> have h0 := h <;> (try simp only [nrm] at h) <;> (try exact Bool.noConfusion h) <;> have h2 := h <;> (try simp at h2) <;> (replace hs := And.intro h0 (And.intro h (And.intro h2 hs))) <;> simp -dsimp [h0, h, h2, hy, hlb, hwb, hq', hs])
          all_goals try simp -dsimp [hy, hlb, hwb, hq', hs]
          all_goals try clear hs
          · have hc : clOk n s w a b = true := by rw [hck]; simp only [Bool.and_eq_true, decide_eq_true_eq]; exact ⟨⟨by assumption, by assumption⟩, by assumption⟩
            rw [if_pos hc] at hsb2
            exact At.round ⟨(b + 1, g2 + 1, false), by simp only; omega⟩ (by simp only; omega) (Weak.of_drop [0,7,13,14,15,63,64,65,74,75,76] 4 (by simp) (by simp) (by simp [hsb2] <;> omega))
          all_goals
            have hc : clOk n s w a b = false := by rw [hck, ← Bool.not_eq_true]; simp only [Bool.and_eq_true, decide_eq_true_eq]; omega
            rw [hc, if_neg Bool.false_ne_true, List.append_nil] at hsb2
            exact At.round ⟨(b + 1, g2, nl2), by simp only; omega⟩ (by simp only; omega) (Weak.of_drop [0,7,13,14,15,63,64,65,74,75,76] 4 (by simp) (by simp) (by simp [hsb2] <;> omega))
      · obtain rfl : b = n.notes.length := by omega
        rw [← hsa]
        have hs : True := trivial
        repeat' first | (with_reducible first | refine q01 ?_ | refine q03 ?_ | refine q04 ?_ | refine q06 ?_ | refine q11 ?_ | refine q16 ?_) | (with_reducible refine DT_regionE [0,1,2,6,7,9,10,11,12,13,14,15,16,17,20,21,22,23,36,37,38,40,41,42,51,63,64,65,66,74,75,76,77,104] ?_; simp -dsimp [hlb, hwa, hs]) | (refine DT_cond rfl (fun h => ?_) (fun h => ?_) <;> (try simp only [nrm] at h) <;> (try exact Bool.noConfusion h))
        all_goals try simp -dsimp [hlb, hwa, hs]
        all_goals try clear hs
        all_goals exact At.round ⟨(a + 1, g2, nl2), by simp only; omega⟩ (by simp only; omega) (Weak.of_drop [0,7,13,63,64,65] 3 (by simp) (by simp) (by simp))
    · obtain rfl : a = n.notes.length := by omega
      have hs : True := trivial
      repeat' first | (with_reducible first | refine q01 ?_ | refine q03 ?_ | refine q06 ?_ | refine q11 ?_ | refine q16 ?_ | refine q17 ?_) | (with_reducible refine At.fn_ret (by simp -dsimp [hla, hs]; exact rfl) ?_) | (with_reducible refine DT_regionE [0,1,2,6,7,9,10,11,12,13,14,15,16,17,20,21,22,23,36,37,38,40,41,42,51,63,64,65,66,74,75,76,77,104] ?_; simp -dsimp [hla, hs]) | (refine DT_cond rfl (fun h => ?_) (fun h => ?_) <;> (try simp only [nrm] at h) <;> (try exact Bool.noConfusion h))
      all_goals try simp -dsimp [hla, hs]
      all_goals try clear hs
      all_goals simp [clashL]
end Go.Proofs
