/- Part 17 of the proof whose last text closes the card: laws and walks that hold without conditions beyond those that each theorem names. -/
import Derived.Test.YtmonmfpdckdoiaaDoorD08
import Derived.Test.YtmonmfpdckdoiaaDoorD10
import Derived.Test.YtmonmfpdckdoiaaDoorD13
import Derived.Test.YtmonmfpdckdoiaaDoorD14
import Derived.Test.YtmonmfpdckdoiaaDoorD15
import Derived.Test.YtmonmfpdckdoiaaDoorD16
set_option linter.all false
set_option linter.deprecated false
namespace Go.Proofs
open Go Go.Ab
set_option linter.unusedSimpArgs false
variable {G : Nat → Option (List IC)}
theorem nClash_c (n : Notes) (s : List Int) (hG : sheetG G) (hN : noteG G) (hS : SortOk G) (hs : NSm n) (hsl : s.length < 1000) (objs : List DObj) : DCall Tryd.prog G 33 [notesv n, isv s] objs (fun rr objs' => rr = .tup [prv (clashR n s), iv (askedE n s 1)] ∧ objs' = objs) := by
  refine DCall.frame ?_ (by simp) (by simp) objs
  refine DCall_intro Tryd.func33 rfl Tryd.ntmps33 (by simp) rfl ?_
  try simp only [notesv, isv]
  have c1 := asked_c n s 1 hG hN hS hs hsl
  unfold clashR
  by_cases h0 : askedE n s 1 = 0
  · rw [h0, show askedR n s 1 = .one (.im (fileI n)) by unfold askedR; rw [if_pos h0]] at c1
    have hnk := notes_ok (asked_ok h0).1
    have c2 := clash_c (G := G) n s [] hS hnk.2.2.1 (by omega) hsl (by simp)
    simp only [fileI, isv, iv, List.map_nil] at c1 c2
    rw [if_pos h0]
    have hs : True := trivial
    repeat' first | (with_reducible first | refine q01 ?_ | refine q11 ?_ | refine q14 ?_ | refine q17 ?_) | (with_reducible refine At.fn_ret (by simp -dsimp [hs]; exact rfl) ?_) | (refine CallE.pure (c1) ?_; try simp -dsimp [hs]) | (refine CallE.pure (c2) ?_; try simp -dsimp [hs]) | (with_reducible refine DT_regionE [0, 1, 2, 4, 5, 6, 7, 15] ?_; simp -dsimp [hs]) | (refine DT_cond rfl (fun h => ?_) (fun h => ?_) <;> (try simp only [nrm] at h) <;> (try exact Bool.noConfusion h))
    all_goals try simp -dsimp [hs]
    all_goals try clear hs
    all_goals simp [h0]
  · rw [show askedR n s 1 = .one (.im (.raw (.pointer none))) by unfold askedR; rw [if_neg h0]] at c1
    rw [if_neg h0]
    simp only [isv, iv] at c1
    have hs : True := trivial
    repeat' first | (with_reducible first | refine q01 ?_ | refine q02 ?_ | refine q11 ?_ | refine q17 ?_) | (with_reducible refine At.fn_ret (by simp -dsimp [h0, hs]; exact rfl) ?_) | (refine CallE.pure (c1) ?_; try simp -dsimp [h0, hs]) | (with_reducible refine DT_regionE [0, 1, 2, 4, 5, 6, 7, 15] ?_; simp -dsimp [h0, hs]) | (refine DT_cond rfl (fun h => ?_) (fun h => ?_) <;> (try simp only [nrm] at h) <;> (try exact Bool.noConfusion h))
    all_goals try simp -dsimp [h0, hs]
    all_goals try clear hs
    all_goals simp [h0]
end Go.Proofs
namespace Go.Ab
open Go
/-- The first one of so many numbers, in their order, behind l. -/
def findL (p : List Int → Bool) : List Int → Nat → List Int → Option (List Int)
  | [], 0, l => if p l then some l else none
  | [], _ + 1, _ => none
  | _ :: _, 0, l => if p l then some l else none
  | a :: r, k + 1, l => match findL p r k (l ++ [a]) with
    | some x => some x
    | none => findL p r (k + 1) l
theorem findL_zero (p : List Int → Bool) (A l : List Int) : findL p A 0 l = if p l then some l else none := by cases A <;> rfl
/-- The first number that differs is less. -/
def lexB : List Int → List Int → Bool
  | a :: x, b :: y => if a = b then lexB x y else decide (a < b)
  | _, _ => false
theorem lexB_irr : ∀ x : List Int, lexB x x = false
  | [] => rfl
  | a :: x => by simp [lexB, lexB_irr x]
theorem lexB_total : ∀ x y : List Int, x.length = y.length → lexB x y = false → lexB y x = false → x = y
  | [], [], _, _, _ => rfl
  | a :: x, b :: y, h, h1, h2 => by
    simp only [lexB] at h1 h2
    by_cases e : a = b
    · subst e
      rw [if_pos rfl] at h1 h2
      rw [lexB_total x y (by simpa using h) h1 h2]
    · rw [if_neg e, decide_eq_false_iff_not] at h1
      rw [if_neg (Ne.symm e), decide_eq_false_iff_not] at h2
      omega
theorem findL_none {p : List Int → Bool} : ∀ (A : List Int) (k : Nat) (l : List Int), findL p A k l = none → ∀ z : List Int, z.Sublist A → z.length = k → p (l ++ z) = false
  | A, 0, l, h, z, hz, hl => by
    rw [findL_zero] at h
    obtain rfl := List.eq_nil_of_length_eq_zero hl
    rw [List.append_nil]
    split at h
    · cases h
    · simp_all
  | [], k + 1, l, h, z, hz, hl => by
    have := hz.length_le
    simp at this; rw [this] at hl; cases hl
  | a :: r, k + 1, l, h, z, hz, hl => by
    simp only [findL] at h
    split at h
    · cases h
    · rename_i h1
      cases hz with
      | cons _ hz => exact findL_none r (k + 1) l h z hz hl
      | cons_cons _ hz =>
        rename_i z'
        have := findL_none r k (l ++ [a]) h1 z' hz (by simpa using hl)
        rw [List.append_assoc] at this; exact this
theorem findL_some {p : List Int → Bool} : ∀ (A : List Int) (k : Nat) (l x : List Int), A.Pairwise (· < ·) → findL p A k l = some x → ∃ y : List Int, y.Sublist A ∧ y.length = k ∧ x = l ++ y ∧ p x = true ∧ ∀ z : List Int, z.Sublist A → z.length = k → p (l ++ z) = true → lexB z y = false
  | A, 0, l, x, _, h => by
    rw [findL_zero] at h
    split at h
    · cases h
      exact ⟨[], by simp, rfl, by simp, by assumption, fun z _ hl _ => by rw [List.eq_nil_of_length_eq_zero hl]; rfl⟩
    · cases h
  | [], k + 1, l, x, _, h => by cases h
  | a :: r, k + 1, l, x, hA, h => by
    obtain ⟨ha, hr⟩ := List.pairwise_cons.1 hA
    simp only [findL] at h
    split at h
    · rename_i x' h1
      cases h
      obtain ⟨y, h2, h3, h4, h5, h6⟩ := findL_some r k (l ++ [a]) _ hr h1
      refine ⟨a :: y, h2.cons_cons a, by simp [h3], by rw [h4, List.append_assoc]; rfl, h5, fun z hz hl hp => ?_⟩
      cases hz with
      | cons _ hz =>
        cases z with
        | nil => cases hl
        | cons b z =>
          have hb : a < b := ha b (hz.subset (by simp))
          simp only [lexB]
          rw [if_neg (by omega), decide_eq_false_iff_not]; omega
      | cons_cons _ hz =>
        rename_i z'
        simp only [lexB, if_true]
        exact h6 z' hz (by simpa using hl) (by rw [List.append_assoc]; exact hp)
    · rename_i h1
      obtain ⟨y, h2, h3, h4, h5, h6⟩ := findL_some r (k + 1) l x hr h
      refine ⟨y, h2.cons a, h3, h4, h5, fun z hz hl hp => ?_⟩
      cases hz with
      | cons _ hz => exact h6 z hz hl hp
      | cons_cons _ hz =>
        rename_i z'
        have := findL_none r k (l ++ [a]) h1 z' hz (by simpa using hl)
        rw [List.append_assoc] at this
        rw [show l ++ a :: z' = l ++ ([a] ++ z') from rfl, this] at hp; cases hp
/-- Fewer, or as many and before. -/
def befL (x y : List Int) : Bool := if x.length = y.length then lexB x y else decide (x.length < y.length)
theorem befL_total {x y : List Int} (h1 : befL x y = false) (h2 : befL y x = false) : x = y := by
  unfold befL at h1 h2
  by_cases e : x.length = y.length
  · rw [if_pos e] at h1; rw [if_pos e.symm] at h2
    exact lexB_total x y e h1 h2
  · rw [if_neg e, decide_eq_false_iff_not] at h1
    rw [if_neg (Ne.symm e), decide_eq_false_iff_not] at h2; omega
/-- The program's answer: the sizes one behind another. -/
def sizesL (p : List Int → Bool) (A : List Int) : Nat → Option (List Int)
  | 0 => none
  | k + 1 => match sizesL p A k with
    | some x => some x
    | none => findL p A k []
theorem sizesL_none {p : List Int → Bool} {A : List Int} : ∀ k, sizesL p A k = none → ∀ z : List Int, z.Sublist A → z.length < k → p z = false
  | 0, _, z, _, h => by omega
  | k + 1, h, z, hz, hl => by
    simp only [sizesL] at h
    split at h
    · cases h
    · rename_i h1
      by_cases e : z.length = k
      · simpa using findL_none A k [] h z hz e
      · exact sizesL_none k h1 z hz (by omega)
theorem sizesL_some {p : List Int → Bool} {A : List Int} (hA : A.Pairwise (· < ·)) : ∀ k x, sizesL p A k = some x → x.Sublist A ∧ p x = true ∧ ∀ z : List Int, z.Sublist A → p z = true → befL z x = false
  | 0, x, h => by cases h
  | k + 1, x, h => by
    simp only [sizesL] at h
    split at h
    · cases h; exact sizesL_some hA k x (by assumption)
    · rename_i h1
      obtain ⟨y, h2, h3, h4, h5, h6⟩ := findL_some A k [] x hA h
      rw [List.nil_append] at h4
      subst h4
      refine ⟨h2, h5, fun z hz hp => ?_⟩
      unfold befL
      split
      · rename_i e
        exact h6 z hz (by omega) (by simpa using hp)
      · rw [decide_eq_false_iff_not]
        intro hlt
        have := sizesL_none k h1 z hz (by omega)
        rw [hp] at this; cases this
/-- The reference's answer: the best of the first sets. -/
def bestL (p : List Int → Bool) (f : Nat → List Int) : Nat → Option (List Int)
  | 0 => none
  | k + 1 => match bestL p f k with
    | none => if p (f k) then some (f k) else none
    | some b => if (befL (f k) b && p (f k)) = true then some (f k) else some b
theorem befL_trans_no {x y z : List Int} (h1 : befL x y = true) (h2 : befL z y = false) : befL z x = false := by
  have lexT : ∀ x y z : List Int, x.length = y.length → z.length = y.length → lexB x y = true → lexB z y = false → lexB z x = false := by
    intro x
    induction x with
    | nil => intro y z _ _ h; simp [lexB] at h
    | cons a x ih =>
      intro y z hl hl2 h h'
      cases y with
      | nil => simp [lexB] at h
      | cons b y =>
        cases z with
        | nil => cases hl2
        | cons c z =>
          simp only [lexB] at h h' ⊢
          by_cases e1 : a = b
          · subst e1
            rw [if_pos rfl] at h
            by_cases e2 : c = a
            · subst e2
              rw [if_pos rfl] at h' ⊢
              exact ih y z (by simpa using hl) (by simpa using hl2) h h'
            · rw [if_neg e2] at h' ⊢; exact h'
          · rw [if_neg e1, decide_eq_true_eq] at h
            by_cases e2 : c = b
            · subst e2
              rw [if_neg (Ne.symm e1), decide_eq_false_iff_not]; omega
            · rw [if_neg e2, decide_eq_false_iff_not] at h'
              rw [if_neg (by omega), decide_eq_false_iff_not]; omega
  unfold befL at *
  by_cases e1 : x.length = y.length
  · rw [if_pos e1] at h1
    by_cases e2 : z.length = y.length
    · rw [if_pos e2] at h2
      rw [if_pos (by omega)]
      exact lexT x y z e1 e2 h1 h2
    · rw [if_neg e2, decide_eq_false_iff_not] at h2
      rw [if_neg (by omega), decide_eq_false_iff_not]; omega
  · rw [if_neg e1, decide_eq_true_eq] at h1
    by_cases e2 : z.length = y.length
    · rw [if_neg (by omega), decide_eq_false_iff_not]; omega
    · rw [if_neg e2, decide_eq_false_iff_not] at h2
      rw [if_neg (by omega), decide_eq_false_iff_not]; omega
theorem bestL_none {p : List Int → Bool} {f : Nat → List Int} : ∀ k, bestL p f k = none → ∀ i < k, p (f i) = false
  | 0, _, i, h => by omega
  | k + 1, h, i, hi => by
    simp only [bestL] at h
    split at h
    · rename_i h1
      split at h
      · cases h
      · by_cases e : i = k
        · subst e; simp_all
        · exact bestL_none k h1 i (by omega)
    · split at h <;> cases h
theorem bestL_some {p : List Int → Bool} {f : Nat → List Int} : ∀ k x, bestL p f k = some x → (∃ i < k, x = f i) ∧ p x = true ∧ ∀ i < k, p (f i) = true → befL (f i) x = false
  | 0, x, h => by cases h
  | k + 1, x, h => by
    simp only [bestL] at h
    split at h
    · rename_i h1
      split at h
      · rename_i hp
        cases h
        refine ⟨⟨k, by omega, rfl⟩, hp, fun i hi hpi => ?_⟩
        by_cases e : i = k
        · subst e; unfold befL; rw [if_pos rfl]; exact lexB_irr _
        · have := bestL_none k h1 i (by omega)
          rw [hpi] at this; cases this
      · cases h
    · rename_i b h1
      obtain ⟨⟨j, hj, e1⟩, e2, e3⟩ := bestL_some k b h1
      split at h
      · rename_i hc
        cases h
        rw [Bool.and_eq_true] at hc
        refine ⟨⟨k, by omega, rfl⟩, hc.2, fun i hi hpi => ?_⟩
        by_cases e : i = k
        · subst e; unfold befL; rw [if_pos rfl]; exact lexB_irr _
        · exact befL_trans_no hc.1 (e3 i (by omega) hpi)
      · rename_i hc
        cases h
        refine ⟨⟨j, by omega, e1⟩, e2, fun i hi hpi => ?_⟩
        by_cases e : i = k
        · subst e
          rw [Bool.and_eq_true] at hc
          exact Bool.eq_false_iff.2 fun hb => hc ⟨hb, hpi⟩
        · exact e3 i (by omega) hpi
/-- Both answers are one, where the sets are all sublists. -/
theorem best_eq {p : List Int → Bool} {A : List Int} (hA : A.Pairwise (· < ·)) {f : Nat → List Int} {k : Nat} (h1 : ∀ i < k, (f i).Sublist A) (h2 : ∀ z : List Int, z.Sublist A → ∃ i < k, f i = z) : sizesL p A (A.length + 1) = bestL p f k := by
  cases hs : sizesL p A (A.length + 1) with
  | none =>
    have hn := sizesL_none _ hs
    cases hb : bestL p f k with
    | none => rfl
    | some b =>
      obtain ⟨⟨i, hi, e⟩, hp, _⟩ := bestL_some k b hb
      have := hn b (e ▸ h1 i hi) (by have := (e ▸ h1 i hi : b.Sublist A).length_le; omega)
      rw [hp] at this; cases this
  | some x =>
    obtain ⟨hx, hp, hmin⟩ := sizesL_some hA _ x hs
    cases hb : bestL p f k with
    | none =>
      obtain ⟨i, hi, e⟩ := h2 x hx
      have := bestL_none k hb i hi
      rw [e, hp] at this; cases this
    | some b =>
      obtain ⟨⟨i, hi, e⟩, hpb, hminb⟩ := bestL_some k b hb
      obtain ⟨j, hj, e2⟩ := h2 x hx
      have g1 := hmin b (e ▸ h1 i hi) hpb
      have g2 := hminb j hj (by rw [e2]; exact hp)
      rw [e2] at g2
      rw [befL_total g2 g1]
end Go.Ab
namespace Go.Ab
open Go
theorem isort_mem' {l : List Int} {n : Int} : n ∈ isort l ↔ n ∈ l := (List.mergeSort_perm l _).mem_iff
theorem isort_strict {l : List Int} (h : l.Nodup) : (isort l).Pairwise (· < ·) := by
  have h1 : (isort l).Nodup := (List.mergeSort_perm l _).nodup_iff.2 h
  have h2 := List.pairwise_mergeSort (le := fun x y : Int => decide (x ≤ y)) (fun a b c h1 h2 => by simp at *; omega) (fun a b => by simp; omega) l
  rw [List.nodup_iff_pairwise_ne] at h1
  refine (h1.and h2).imp ?_
  rintro a b ⟨h3, h4⟩
  simp at h4; omega
theorem strict_sub : ∀ (X Y : List Int), X.Pairwise (· < ·) → Y.Pairwise (· < ·) → (∀ x ∈ X, x ∈ Y) → X.Sublist Y
  | [], Y, _, _, _ => by simp
  | a :: x, [], _, _, h => by have := h a (by simp); simp at this
  | a :: x, b :: y, hX, hY, h => by
    obtain ⟨h1, h2⟩ := List.pairwise_cons.1 hX
    obtain ⟨h3, h4⟩ := List.pairwise_cons.1 hY
    by_cases e : a = b
    · subst e
      refine List.Sublist.cons_cons a (strict_sub x y h2 h4 fun z hz => ?_)
      rcases List.mem_cons.1 (h z (by simp [hz])) with rfl | hm
      · have := h1 z hz; omega
      · exact hm
    · refine List.Sublist.cons b (strict_sub (a :: x) y hX h4 fun z hz => ?_)
      have hab : b < a := by
        rcases List.mem_cons.1 (h a (by simp)) with rfl | hm
        · exact absurd rfl e
        · exact h3 a hm
      rcases List.mem_cons.1 (h z hz) with rfl | hm
      · rcases List.mem_cons.1 hz with rfl | hz
        · omega
        · have := h1 z hz; omega
      · exact hm
theorem strict_eq {X Y : List Int} (hX : X.Pairwise (· < ·)) (hY : Y.Pairwise (· < ·)) (h : ∀ x, x ∈ X ↔ x ∈ Y) : X = Y :=
  (strict_sub X Y hX hY fun x hx => (h x).1 hx).eq_of_length_le (strict_sub Y X hY hX fun x hx => (h x).2 hx).length_le
/-- A set for any choice. -/
theorem mask_ex (f : Nat → Bool) : ∀ n : Nat, ∃ s : Nat, s < 2 ^ n ∧ ∀ i < n, s.testBit i = f i
  | 0 => ⟨0, by simp, fun i hi => by omega⟩
  | n + 1 => by
    obtain ⟨s, h1, h2⟩ := mask_ex f n
    cases hf : f n
    · refine ⟨s, by rw [Nat.pow_succ]; omega, fun i hi => ?_⟩
      by_cases e : i = n
      · subst e; rw [hf]; exact Nat.testBit_lt_two_pow h1
      · exact h2 i (by omega)
    · refine ⟨2 ^ n + s, by rw [Nat.pow_succ]; omega, fun i hi => ?_⟩
      by_cases e : i = n
      · subst e; rw [hf, Nat.testBit_two_pow_add_eq, Nat.testBit_lt_two_pow h1]; rfl
      · rw [Nat.testBit_two_pow_add_gt (by omega)]; exact h2 i (by omega)
/-- What is in a set of so many numbers. -/
def selN (N : List Int) (s : Nat) (k : Nat) : List Int := ((List.range k).filter fun i => s.testBit i).map fun i => N.getD i 0
theorem selN_succ (N : List Int) (s k : Nat) : selN N s (k + 1) = selN N s k ++ (if s.testBit k = true then [N.getD k 0] else []) := by
  unfold selN
  rw [List.range_succ, List.filter_append, List.map_append]
  congr 1
  by_cases h : s.testBit k = true <;> simp [h]
theorem selN_mem {N : List Int} {s k : Nat} (hk : k ≤ N.length) {x : Int} : x ∈ selN N s k ↔ ∃ i, i < k ∧ s.testBit i = true ∧ N[i]? = some x := by
  simp only [selN, List.mem_map, List.mem_filter, List.mem_range]
  constructor
  · rintro ⟨i, ⟨h1, h2⟩, rfl⟩
    have hi : i < N.length := by omega
    exact ⟨i, h1, h2, by simp [hi]⟩
  · rintro ⟨i, h1, h2, h3⟩
    exact ⟨i, ⟨h1, h2⟩, by simp [h3]⟩
theorem selN_nodup {N : List Int} (hN : N.Nodup) {s k : Nat} (hk : k ≤ N.length) : (selN N s k).Nodup := by
  unfold selN
  rw [List.nodup_iff_pairwise_ne, List.pairwise_map]
  have hr : ((List.range k).filter fun i => s.testBit i).Nodup := List.nodup_range.filter _
  rw [List.nodup_iff_pairwise_ne] at hr
  refine List.Pairwise.imp_of_mem ?_ hr
  intro a b ha hb hab e
  simp only [List.mem_filter, List.mem_range] at ha hb
  have h1 : a < N.length := by omega
  have h2 : b < N.length := by omega
  simp only [List.getD_eq_getElem?_getD, List.getElem?_eq_getElem h1, List.getElem?_eq_getElem h2, Option.getD_some] at e
  exact hab ((List.getElem_inj hN).1 e)
theorem sel_all {N : List Int} (hN : N.Nodup) : (∀ s < 2 ^ N.length, (isort (selN N s N.length)).Sublist (isort N)) ∧ ∀ z : List Int, z.Sublist (isort N) → ∃ s < 2 ^ N.length, isort (selN N s N.length) = z := by
  have hA := isort_strict hN
  constructor
  · intro s _
    refine strict_sub _ _ (isort_strict (selN_nodup hN (Nat.le_refl _))) hA fun x hx => ?_
    rw [isort_mem'] at hx ⊢
    obtain ⟨i, _, _, h⟩ := (selN_mem (Nat.le_refl _)).1 hx
    exact List.mem_of_getElem? h
  · intro z hz
    obtain ⟨s, h1, h2⟩ := mask_ex (fun i => decide (N.getD i 0 ∈ z)) N.length
    refine ⟨s, h1, strict_eq (isort_strict (selN_nodup hN (Nat.le_refl _))) (hA.sublist hz) fun x => ?_⟩
    rw [isort_mem', selN_mem (Nat.le_refl _)]
    constructor
    · rintro ⟨i, hi, hb, hx⟩
      rw [h2 i hi, decide_eq_true_eq] at hb
      simpa [hx] using hb
    · intro hx
      have hm : x ∈ N := isort_mem'.1 (hz.subset hx)
      obtain ⟨i, hi, e⟩ := List.mem_iff_getElem.1 hm
      refine ⟨i, hi, ?_, by rw [List.getElem?_eq_getElem hi, e]⟩
      rw [h2 i hi, decide_eq_true_eq]
      simpa [hi, e] using hx
end Go.Ab
namespace Go.Ab
open Go
theorem lexB_skip {x y : List Int} {k : Nat} (h1 : k < x.length) (h2 : k < y.length) : lexB (x.drop k) (y.drop k) = if x[k] = y[k] then lexB (x.drop (k + 1)) (y.drop (k + 1)) else decide (x[k] < y[k]) := by
  rw [List.drop_eq_getElem_cons h1, List.drop_eq_getElem_cons h2, lexB]
end Go.Ab
namespace Go.Proofs
open Go Go.Ab
set_option linter.unusedSimpArgs false
variable {G : Nat → Option (List IC)}
theorem before3_c (x y : List Int) (hx : x.length < 1000) (hy : y.length < 1000) (objs : List DObj) : DCall Tryd.prog G 73 [isv x, isv y] objs (fun rr objs' => rr = bv (befL x y) ∧ objs' = objs) := by
  refine DCall.frame ?_ (by simp) (by simp) objs
  refine DCall_intro Tryd.func73 rfl Tryd.ntmps73 (by simp) rfl ?_
  try simp only [isv, isv]
  unfold befL
  by_cases h0 : x.length = y.length
  · rw [if_pos h0]
    simp only [isv, bv]
    have hs : True := trivial
    repeat' first | (with_reducible first | refine q01 ?_ | refine q11 ?_ | refine q12 ?_ | refine q14 ?_) | (with_reducible refine DT_regionE [0, 1, 4, 5, 10, 19, 30] ?_; simp -dsimp [h0, hs]) | (refine DT_cond rfl (fun h => ?_) (fun h => ?_) <;> (try simp only [nrm] at h) <;> (try exact Bool.noConfusion h))
    all_goals try simp -dsimp [h0, hs]
    all_goals try clear hs
    refine DT_loop (ι := { k : Nat // k ≤ x.length ∧ lexB x y = lexB (x.drop k) (y.drop k) }) (fun p => ⟨40, [(0, isv x), (1, isv y), (5, iv (p.1 : Int))], []⟩) (fun p => x.length - p.1) ⟨0, by simp⟩ (Weak.of_keep [0,1,5] (by simp)) ?_
    rintro ⟨k, hk, he⟩
    simp only [iv, isv]
    by_cases hlt : k < x.length
    · have hw : IntKind.i64.wrap ((k : Int) + 1) = ((k + 1 : Nat) : Int) := i64w (by omega) (by omega)
      have hlt2 : k < y.length := by omega
      rw [lexB_skip hlt hlt2] at he
      generalize hu : x[k] = u at *
      generalize hv : y[k] = v at *
      by_cases huv : u = v
      · subst huv
        rw [if_pos rfl] at he
        have hs : True := trivial
        repeat' first | (with_reducible first | refine q01 ?_ | refine q04 ?_ | refine q11 ?_ | refine q12 ?_ | refine q14 ?_) | (refine DT_regionM (id := 6) (nt := 40) 9 [0, 1, 4, 5, 10, 19, 30] mixed rfl (by kernel_rfl) ?_; simp -dsimp [hlt, hlt2, hu, hv, hw, hs]) | (with_reducible refine DT_regionE [0, 1, 4, 5, 10, 19, 30] ?_; simp -dsimp [hlt, hlt2, hu, hv, hw, hs]) | (refine DT_cond rfl (fun h => ?_) (fun h => ?_) <;> (try simp only [nrm] at h) <;> (try exact Bool.noConfusion h))
        all_goals try simp -dsimp [hlt, hlt2, hu, hv, hw, hs]
        all_goals try clear hs
        exact At.round ⟨k + 1, by omega, he⟩ (by simp; omega) (Weak.of_keep [0,1,5] (by simp))
      · rw [if_neg huv] at he
        have hs : True := trivial
        repeat' first | (with_reducible first | refine q01 ?_ | refine q02 ?_ | refine q05 ?_ | refine q11 ?_ | refine q12 ?_ | refine q14 ?_ | refine q17 ?_) | (with_reducible refine At.fn_ret (by simp -dsimp [hlt, hlt2, hu, hv, huv, hs]; exact rfl) ?_) | (refine DT_regionM (id := 6) (nt := 40) 9 [0, 1, 4, 5, 10, 19, 30] mixed rfl (by kernel_rfl) ?_; simp -dsimp [hlt, hlt2, hu, hv, huv, hs]) | (refine DT_regionM (id := 7) (nt := 40) 10 [0, 1, 4, 5, 10, 19, 30] mixed rfl (by kernel_rfl) ?_; simp -dsimp [hlt, hlt2, hu, hv, huv, hs]) | (with_reducible refine DT_regionE [0, 1, 4, 5, 10, 19, 30] ?_; simp -dsimp [hlt, hlt2, hu, hv, huv, hs]) | (refine DT_cond rfl (fun h => ?_) (fun h => ?_) <;> (try simp only [nrm] at h) <;> (try exact Bool.noConfusion h))
        all_goals try simp -dsimp [hlt, hlt2, hu, hv, huv, hs]
        all_goals try clear hs
        all_goals simp [he]
    · rw [List.drop_of_length_le (by omega : x.length ≤ k), List.drop_of_length_le (by omega : y.length ≤ k)] at he
      have hs : True := trivial
      repeat' first | (with_reducible first | refine q01 ?_ | refine q03 ?_ | refine q06 ?_ | refine q11 ?_ | refine q16 ?_ | refine q17 ?_) | (with_reducible refine At.fn_ret (by simp -dsimp [hlt, hs]; exact rfl) ?_) | (with_reducible refine DT_regionE [0, 1, 4, 5, 10, 19, 30] ?_; simp -dsimp [hlt, hs]) | (refine DT_cond rfl (fun h => ?_) (fun h => ?_) <;> (try simp only [nrm] at h) <;> (try exact Bool.noConfusion h))
      all_goals try simp -dsimp [hlt, hs]
      all_goals try clear hs
      all_goals simp [he, lexB]
  · rw [if_neg h0]
    have h0' : ¬ ((x.length : Int) = (y.length : Int)) := by omega
    simp only [isv, bv]
    have hs : True := trivial
    repeat' first | (with_reducible first | refine q01 ?_ | refine q02 ?_ | refine q11 ?_ | refine q17 ?_) | (with_reducible refine At.fn_ret (by simp -dsimp [h0', hs]; exact rfl) ?_) | (with_reducible refine DT_regionE [0, 1, 4, 5, 10, 19, 30] ?_; simp -dsimp [h0', hs]) | (refine DT_cond rfl (fun h => ?_) (fun h => ?_) <;> (try simp only [nrm] at h) <;> (try exact Bool.noConfusion h))
    all_goals try simp -dsimp [h0', hs]
    all_goals try clear hs
    all_goals simp
end Go.Proofs
namespace Go.Ab
open Go
theorem isort_ins {l : List Int} {x : Int} {q : Nat} (hq : q ≤ (isort l).length) (h1 : ∀ j ∈ (isort l).drop q, x ≤ j) (h2 : ∀ r, r + 1 = q → ∀ v, (isort l)[r]? = some v → v ≤ x) : isort (l ++ [x]) = (isort l).take q ++ x :: (isort l).drop q := by
  have hs : (isort l).Pairwise (· ≤ ·) := by
    have := List.pairwise_mergeSort (le := fun x y : Int => decide (x ≤ y)) (fun a b c h1 h2 => by simp at *; omega) (fun a b => by simp; omega) l
    exact this.imp (by intro a b h; simpa using h)
  have hs2 : (isort (l ++ [x])).Pairwise (· ≤ ·) := by
    have := List.pairwise_mergeSort (le := fun x y : Int => decide (x ≤ y)) (fun a b c h1 h2 => by simp at *; omega) (fun a b => by simp; omega) (l ++ [x])
    exact this.imp (by intro a b h; simpa using h)
  have hp1 : (isort l).Perm l := List.mergeSort_perm l _
  have hp2 : (isort (l ++ [x])).Perm (l ++ [x]) := List.mergeSort_perm _ _
  generalize isort l = S at *
  have ht : (S.take q ++ x :: S.drop q).Pairwise (· ≤ ·) := by
    rw [← List.take_append_drop q S, List.pairwise_append] at hs
    obtain ⟨ha, hb, hc⟩ := hs
    rw [List.pairwise_append]
    refine ⟨ha, List.pairwise_cons.2 ⟨h1, hb⟩, ?_⟩
    have hx : ∀ a ∈ S.take q, a ≤ x := by
      intro a hm
      cases q with
      | zero => simp at hm
      | succ r =>
        have hr : r < S.length := by omega
        have hv := h2 r rfl S[r] (by simp [hr])
        rw [List.take_succ_eq_append_getElem hr] at hm ha
        rcases List.mem_append.1 hm with h | h
        · have := (List.pairwise_append.1 ha).2.2 a h S[r] (by simp)
          omega
        · simp at h; omega
    intro a hm b hb'
    rcases List.mem_cons.1 hb' with rfl | hb'
    · exact hx a hm
    · exact hc a hm b hb'
  have hp : (isort (l ++ [x])).Perm (S.take q ++ x :: S.drop q) := hp2.trans ((List.perm_append_singleton x l).trans ((hp1.symm.cons x).trans (by
    have := (List.perm_middle (a := x) (l₁ := S.take q) (l₂ := S.drop q)).symm
    rwa [List.take_append_drop] at this)))
  exact List.Perm.eq_of_pairwise (fun a b _ _ h1 h2 => by omega) hs2 ht hp
theorem bit_at (s i : Nat) : IntKind.i64.wrap ((BitVec.ofInt 64 ((s : Int).fdiv (2 ^ i)) &&& BitVec.ofInt 64 1).toNat : Int) = if s.testBit i = true then 1 else 0 := by
  have e1 : (s : Int).fdiv (2 ^ i) = ((s / 2 ^ i : Nat) : Int) := by
    rw [Int.fdiv_eq_ediv_of_nonneg _ (by exact Int.pow_nonneg (by omega))]
    simp
  have e2 : (BitVec.ofInt 64 ((s / 2 ^ i : Nat) : Int) &&& BitVec.ofInt 64 1).toNat = (s / 2 ^ i) % 2 := by
    have h1 : (BitVec.ofInt 64 1) = 1#64 := by decide
    rw [h1, BitVec.ofInt_natCast, BitVec.toNat_and, BitVec.toNat_ofNat, BitVec.toNat_ofNat]
    rw [show (1 % 2 ^ 64 : Nat) = 1 by decide, Nat.and_one_is_mod]
    omega
  rw [e1, e2, Nat.testBit_eq_decide_div_mod_eq]
  rcases Nat.mod_two_eq_zero_or_one (s / 2 ^ i) with h | h
  · rw [h]; simp; decide
  · rw [h]; simp; decide
end Go.Ab
namespace Go.Ab
open Go
theorem insI_swap {S : List Int} {q : Nat} {k : Int} (hq : q < S.length) : ((S.take (q + 1) ++ k :: S.drop (q + 1)).set (q + 1) S[q]).set q k = S.take q ++ k :: S.drop q := by
  have h1 : S.take (q + 1) = S.take q ++ [S[q]] := List.take_succ_eq_append_getElem hq
  have hl : (S.take q).length = q := by simp; omega
  rw [List.drop_eq_getElem_cons hq, h1, List.append_assoc, List.set_append_right _ _ (by omega), List.set_append_right _ _ (by omega)]
  congr 1
  rw [hl, show q + 1 - q = 1 by omega, show q - q = 0 by omega]
  rfl
theorem insI_at {S : List Int} {q : Nat} {k : Int} (hq : q ≤ S.length) : (S.take q ++ k :: S.drop q)[q]? = some k := by
  have hl : (S.take q).length = q := by simp; omega
  rw [List.getElem?_append_right (by omega), hl, Nat.sub_self]; rfl
theorem insI_before {S : List Int} {q : Nat} {k : Int} (hq : q < S.length) : (S.take (q + 1) ++ k :: S.drop (q + 1))[q]? = some S[q] := by
  rw [List.getElem?_append_left (by simp; omega), List.getElem?_take_of_lt (by omega), List.getElem?_eq_getElem hq]
end Go.Ab
namespace Go.Proofs
open Go Go.Ab
set_option linter.unusedSimpArgs false
variable {G : Nat → Option (List IC)}
def setL (n : Notes) (s k : Nat) : List Int := isort (selN (n.notes.map fun x => x.number) s k)
theorem setL_len (n : Notes) (s k : Nat) : (setL n s k).length ≤ k := by
  unfold setL selN
  rw [isort_len, List.length_map]
  refine Nat.le_trans (List.length_filter_le _ _) ?_
  simp
set_option maxHeartbeats 4000000 in
theorem numbers3_c (n : Notes) (s : Nat) (hn : n.notes.length ≤ 12) (hsn : s < 2 ^ 12) (objs : List DObj) : DCall Tryd.prog G 72 [notesv n, iv (s : Int)] objs (fun rr objs' => rr = isv (setL n s n.notes.length) ∧ objs' = objs) := by
  refine DCall.frame ?_ (by simp) (by simp) objs
  refine DCall_intro Tryd.func72 rfl Tryd.ntmps72 (by simp) rfl ?_
  try simp only [notesv, iv]
  have hs0 : (0 : Int) ≤ (s : Int) := by omega
  have hz : setL n s 0 = [] := by simp [setL, selN, isort]
  have hs : True := trivial
  repeat' first | (with_reducible first | refine q01 ?_ | refine q11 ?_ | refine q12 ?_) | (with_reducible refine DT_regionE [0, 1, 2, 4, 5, 6, 7, 8, 13, 20, 46] ?_; simp -dsimp [hs])
  all_goals try simp -dsimp [hs]
  all_goals try clear hs
  refine DT_loop (ι := { p : Nat × Nat × Bool // p.1 ≤ n.notes.length }) (fun p => ⟨67, [(1, iv (s : Int)), (2, .one (.ptr 0 0)), (5, .one (.vec 2 p.1.2.1 0 (setL n s p.1.1).length)), (6, iv (p.1.1 : Int))], [.row ((encNotes n).map .im), .vec 1 [] 0 true, .vec 1 (ims ((setL n s p.1.1).map encI)) p.1.2.1 p.1.2.2]⟩) (fun p => n.notes.length - p.1.1) ⟨(0, 0, true), by simp⟩ (Weak.of_keep [1,2,5,6] (by simp [hz])) ?_
  rintro ⟨⟨i, g, nl⟩, hi⟩
  simp only at hi
  simp only [iv]
  by_cases hlt : i < n.notes.length
  · have hw : IntKind.i64.wrap ((i : Int) + 1) = ((i + 1 : Nat) : Int) := i64w (by omega) (by omega)
    have hi63 : min i 64 = i := by omega
    have hin : ¬ ((i : Int) < 0) := by omega
    have hb64 : IntKind.i64.bits = 64 := rfl
    have hbit := bit_at s i
    have hSl := setL_len n s i
    have hsu : setL n s (i + 1) = isort (selN (n.notes.map fun x => x.number) s i ++ (if s.testBit i = true then [n.notes[i].number] else [])) := by
      rw [setL, selN_succ, show (n.notes.map fun x => x.number).getD i 0 = n.notes[i].number by simp [hlt]]
    generalize hx : n.notes[i] = x at *
    cases hb : s.testBit i
    · rw [hb] at hbit hsu
      simp at hbit
      rw [if_neg Bool.false_ne_true, List.append_nil] at hsu
      change setL n s (i + 1) = setL n s i at hsu
      have hs : True := trivial
      repeat' first | (with_reducible first | refine q01 ?_ | refine q03 ?_ | refine q06 ?_ | refine q11 ?_ | refine q12 ?_ | refine q14 ?_ | refine q16 ?_) | (with_reducible refine DT_regionE [0, 1, 2, 4, 5, 6, 7, 8, 13, 20, 46] ?_; simp -dsimp [hx, hlt, hw, hin, hi63, hb64, hbit, hs]) | (refine DT_cond rfl (fun h => ?_) (fun h => ?_) <;> (try simp only [nrm] at h) <;> (try exact Bool.noConfusion h))
      all_goals try simp -dsimp [hx, hlt, hw, hin, hi63, hb64, hbit, hs]
      all_goals try clear hs
      all_goals exact At.round ⟨(i + 1, g, nl), by simp only; omega⟩ (by simp only; omega) (Weak.of_keep [1,2,5,6] (by simp [hsu]))
    · rw [hb] at hbit hsu
      simp at hbit
      rw [if_pos rfl] at hsu
      have hins := fun q hq h1 h2 => isort_ins (l := selN (n.notes.map fun x => x.number) s i) (x := x.number) (q := q) hq h1 h2
      rw [← hsu] at hins
      change ∀ q, q ≤ (setL n s i).length → (∀ j ∈ (setL n s i).drop q, x.number ≤ j) → (∀ r, r + 1 = q → ∀ v, (setL n s i)[r]? = some v → v ≤ x.number) → setL n s (i + 1) = (setL n s i).take q ++ x.number :: (setL n s i).drop q at hins
      clear hsu
      have hbd : ((setL n s i).length + 1) * 8 ≤ 140737488355328 := by omega
      generalize setL n s i = S at *
      have hw2 : IntKind.i64.wrap (S.length : Int) = (S.length : Int) := i64w (by omega) (by omega)
      have hs : True := trivial
      repeat' first | (with_reducible first | refine q01 ?_ | refine q11 ?_ | refine q12 ?_ | refine q14 ?_ | refine And.intro (by omega) ?_) | (with_reducible refine DT_regionE [0, 1, 2, 4, 5, 6, 7, 8, 13, 20, 46] ?_; simp -dsimp [hx, hlt, hw, hin, hi63, hb64, hbit, hbd, hw2, hs]) | (refine DT_cond rfl (fun h => ?_) (fun h => ?_) <;> (try simp only [nrm] at h) <;> (try exact Bool.noConfusion h))
      all_goals try simp -dsimp [hx, hlt, hw, hin, hi63, hb64, hbit, hbd, hw2, hs]
      all_goals try clear hs
      refine DT_loop (ι := { q : Nat // q ≤ S.length ∧ ∀ j ∈ S.drop q, x.number ≤ j }) (fun p => ⟨67, [(1, iv (s : Int)), (2, .one (.ptr 0 0)), (5, .one (.vec 2 (g + 1) 0 (S.length + 1))), (6, iv (i : Int)), (7, iv (p.1 : Int))], [.row ((encNotes n).map .im), .vec 1 [] 0 true, .vec 1 (ims ((S.take p.1 ++ x.number :: S.drop p.1).map encI)) (g + 1) false]⟩) (fun p => p.1) ⟨S.length, by simp⟩ (Weak.of_drop [1,2,5,6,7] 3 (by simp) (by simp) (by simp [ims])) ?_
      rintro ⟨q, hq, hge⟩
      simp only [iv]
      have hLq := insI_at (k := x.number) hq
      have hTl : (S.take q ++ x.number :: S.drop q).length = S.length + 1 := by simp; omega
      by_cases h0 : q = 0
      · subst h0
        have hput := hins 0 (by simp) hge (fun r hr => by omega)
        have hs : True := trivial
        repeat' first | (with_reducible first | refine q01 ?_ | refine q03 ?_ | refine q04 ?_ | refine q06 ?_ | refine q11 ?_ | refine q16 ?_) | (refine DT_regionM (id := 8) (nt := 67) 14 [0, 1, 2, 4, 5, 6, 7, 8, 13, 20, 46] mixed rfl (by kernel_rfl) ?_; simp -dsimp [hw, hx, hlt, hs]) | (with_reducible refine DT_regionE [0, 1, 2, 4, 5, 6, 7, 8, 13, 20, 46] ?_; simp -dsimp [hw, hx, hlt, hs]) | (refine DT_cond rfl (fun h => ?_) (fun h => ?_) <;> (try simp only [nrm] at h) <;> (try exact Bool.noConfusion h))
        all_goals try simp -dsimp [hw, hx, hlt, hs]
        all_goals try clear hs
        exact At.round ⟨(i + 1, g + 1, false), by simp only; omega⟩ (by simp only; omega) (Weak.of_keep [1,2,5,6] (by simp [hput]))
      · obtain ⟨r, rfl⟩ : ∃ r, q = r + 1 := ⟨q - 1, by omega⟩
        have hr : r < S.length := by omega
        have hLr := insI_before (k := x.number) hr
        have hsw := insI_swap (k := x.number) hr
        have hdr := List.drop_eq_getElem_cons hr
        have hput := fun (h : S[r] ≤ x.number) => hins (r + 1) hq hge (fun r' e v hv => by
          obtain rfl : r' = r := by omega
          rw [List.getElem?_eq_getElem hr, Option.some.injEq] at hv
          rw [← hv]; exact h)
        have hq1 : ((r + 1 : Nat) : Int) - 1 = (r : Int) := by omega
        have hwr : IntKind.i64.wrap (r : Int) = (r : Int) := i64w (by omega) (by omega)
        have hr1 : r < S.length + 1 := by omega
        have hp0 : (0 : Int) ≤ (r : Int) + 1 := by omega
        have hp1 : (0 : Int) < (r : Int) + 1 := by omega
        have hwr1 : IntKind.i64.wrap ((r : Int) + 1 - 1) = (r : Int) := i64w (by omega) (by omega) |>.trans (by omega)
        generalize S[r] = j at *
        generalize hL : S.take (r + 1) ++ x.number :: S.drop (r + 1) = L at *
        obtain ⟨_, hLre⟩ := List.getElem?_eq_some_iff.1 hLr
        obtain ⟨_, hLie⟩ := List.getElem?_eq_some_iff.1 hLq
        have hs : True := trivial
        repeat' first | (with_reducible first | refine q01 ?_ | refine q03 ?_ | refine q04 ?_ | refine q06 ?_ | refine q11 ?_ | refine q12 ?_ | refine q14 ?_ | refine q16 ?_) | (refine DT_regionM (id := 8) (nt := 67) 14 [0, 1, 2, 4, 5, 6, 7, 8, 13, 20, 46] mixed rfl (by kernel_rfl) ?_; simp -dsimp [hw, hx, hlt, hLie, hLre, hwr, hTl, hr, hr1, hp0, hp1, hwr1, hs]) | (with_reducible refine DT_regionE [0, 1, 2, 4, 5, 6, 7, 8, 13, 20, 46] ?_; simp -dsimp [hw, hx, hlt, hLie, hLre, hwr, hTl, hr, hr1, hp0, hp1, hwr1, hs]) | (refine DT_cond rfl (fun h => ?_) (fun h => ?_) <;> (try simp only [nrm] at h) <;> (try exact Bool.noConfusion h))
        all_goals try simp -dsimp [hw, hx, hlt, hLie, hLre, hwr, hTl, hr, hr1, hp0, hp1, hwr1, hs]
        all_goals try clear hs
        · exact At.round ⟨r, by omega, fun z hz => by
            rw [hdr] at hz
            rcases List.mem_cons.1 hz with rfl | hz
            · omega
            · exact hge z hz⟩ (by simp) (Weak.of_keep [1,2,5,6,7] (by simp [← hsw]))
        · have hput := hput (by omega)
          exact At.round ⟨(i + 1, g + 1, false), by simp only; omega⟩ (by simp only; omega) (Weak.of_keep [1,2,5,6] (by simp [hput, hTl]))
  · obtain rfl : i = n.notes.length := by omega
    have hs : True := trivial
    repeat' first | (with_reducible first | refine q01 ?_ | refine q03 ?_ | refine q06 ?_ | refine q11 ?_ | refine q16 ?_ | refine q17 ?_) | (with_reducible refine At.fn_ret (by simp -dsimp [hlt, hs]; exact rfl) ?_) | (with_reducible refine DT_regionE [0, 1, 2, 4, 5, 6, 7, 8, 13, 20, 46] ?_; simp -dsimp [hlt, hs]) | (refine DT_cond rfl (fun h => ?_) (fun h => ?_) <;> (try simp only [nrm] at h) <;> (try exact Bool.noConfusion h))
    all_goals try simp -dsimp [hlt, hs]
    all_goals try clear hs
    all_goals simp
end Go.Proofs
namespace Go.Ab
open Go
def wStep (c : List Int → Bool) (L : List Int) : Option (List Int) → Option (List Int)
  | none => if c L = true then some L else none
  | some b => if befL L b = true ∧ c L = true then some L else some b
end Go.Ab
namespace Go.Proofs
open Go Go.Ab
set_option linter.unusedSimpArgs false
variable {G : Nat → Option (List IC)}
def clB (n : Notes) (s L : List Int) : Bool := decide ((clashL n s L).length = 0)
/-- The best set among the first k. -/
def wTo (n : Notes) (s : List Int) : Nat → Option (List Int)
  | 0 => none
  | k + 1 => wStep (clB n s) (setL n k n.notes.length) (wTo n s k)
def wT7 : Option (List Int) → DV
  | none => .one (.vec 2 0 0 0)
  | some b => isv b
theorem wTo_len (n : Notes) (s : List Int) : ∀ (k : Nat) (b : List Int), wTo n s k = some b → b.length ≤ n.notes.length
  | 0, b, h => by cases h
  | k + 1, b, h => by
    have hS := setL_len n k n.notes.length
    rw [wTo] at h
    cases e : wTo n s k with
    | none =>
      rw [e] at h
      simp only [wStep] at h
      split at h
      · cases h; exact hS
      · cases h
    | some b0 =>
      rw [e] at h
      simp only [wStep] at h
      split at h
      · cases h; exact hS
      · cases h; exact wTo_len n s k b e
def wR (n : Notes) (s : List Int) : List Int := if askedE n s 1 = 0 then (wTo n s (2 ^ n.notes.length)).getD [] else []
set_option maxHeartbeats 4000000 in
theorem rWithdraw_c (n : Notes) (s : List Int) (hs : NSm n) (hsl : s.length < 1000) (objs : List DObj) : DCall Tryd.prog G 36 [notesv n, isv s] objs (fun rr objs' => rr = .tup [isv (wR n s), iv (askedE n s 1)] ∧ objs' = objs) := by
  refine DCall.frame ?_ (by simp) (by simp) objs
  refine DCall_intro Tryd.func36 rfl Tryd.ntmps36 (by simp) rfl ?_
  try simp only [notesv, isv]
  have c1 := asked3_c (G := G) n s 1 hs hsl
  unfold wR
  by_cases h0 : askedE n s 1 = 0
  · rw [h0] at c1
    have hnk := notes_ok (asked_ok h0).1
    have hn12 := hnk.2.1
    rw [if_pos h0, h0]
    simp only [isv, iv] at c1
    have hs : True := trivial
    repeat' first | (with_reducible first | refine q01 ?_ | refine q11 ?_ | refine q12 ?_ | refine q14 ?_) | (refine CallE.pure (c1) ?_; try simp -dsimp [hs]) | (with_reducible refine DT_regionE [0, 1, 2, 4, 5, 6, 7, 8, 9, 10, 15, 22, 42] ?_; simp -dsimp [hs]) | (refine DT_cond rfl (fun h => ?_) (fun h => ?_) <;> (try simp only [nrm] at h) <;> (try exact Bool.noConfusion h))
    all_goals try simp -dsimp [hs]
    all_goals try clear hs
    have hPe : (2 : Nat) ^ n.notes.length ≤ 2 ^ 12 := Nat.pow_le_pow_right (by omega) hn12
    have hmin : min n.notes.length 64 = n.notes.length := by omega
    have hb64 : IntKind.i64.bits = 64 := rfl
    have hsh : IntKind.i64.wrap ((2 : Int) ^ n.notes.length) = ((2 ^ n.notes.length : Nat) : Int) := by
      rw [show ((2 : Int) ^ n.notes.length) = ((2 ^ n.notes.length : Nat) : Int) by simp]
      exact (fun (P : Nat) (h : P ≤ 2 ^ 12) => (i64w (by omega) (by omega) : IntKind.i64.wrap (P : Int) = (P : Int))) _ hPe
    have hw0 : wTo n s 0 = none := rfl
    generalize hP : 2 ^ n.notes.length = P at *
    have hlnn : ¬ ((n.notes.length : Int) < 0) := by omega
    refine DT_loop (ι := { k : Nat // k ≤ P }) (fun p => ⟨45, [(1, isv s), (2, .one (.ptr 0 0)), (7, wT7 (wTo n s p.1)), (8, bv (wTo n s p.1).isSome), (9, iv (p.1 : Int))], [.row ((encNotes n).map .im), .vec 1 [] 0 true, .vec 1 [] 0 true]⟩) (fun p => P - p.1) ⟨0, by simp⟩ (Weak.of_keep [1,2,7,8,9] (by simp [hw0, wT7])) ?_
    rintro ⟨k, hk⟩
    simp only [iv, bv, isv]
    have hwl := wTo_len n s k
    have hSl := setL_len n k n.notes.length
    by_cases hlt : k < P
    · have hw : IntKind.i64.wrap ((k : Int) + 1) = ((k + 1 : Nat) : Int) := i64w (by omega) (by omega)
      have c2 := numbers3_c (G := G) n k hn12 (by omega)
      have c3 := clash3_c (G := G) n s (setL n k n.notes.length) hnk.1 hnk.2.2.1 hn12 hsl (by omega)
      have hstep : wTo n s (k + 1) = wStep (clB n s) (setL n k n.notes.length) (wTo n s k) := rfl
      have hcl : clB n s (setL n k n.notes.length) = decide ((clashL n s (setL n k n.notes.length)).length = 0) := rfl
      simp only [isv, iv] at c2 c3
      cases ho : wTo n s k with
      | none =>
        rw [ho] at hstep
        simp only [wStep] at hstep
        generalize setL n k n.notes.length = L at *
        generalize clashL n s L = C at *
        by_cases hC : C.length = 0
        · rw [hcl, if_pos (by simpa using hC)] at hstep
          simp only [wT7]
          have hs : True := trivial
          repeat' first | (with_reducible first | refine q01 ?_ | refine q04 ?_ | refine q11 ?_ | refine q12 ?_ | refine q14 ?_) | (refine CallE.pure (c2) ?_; try simp -dsimp [hlt, hw, hmin, hb64, hsh, hlnn, hC, hs]) | (refine CallE.pure (c3) ?_; try simp -dsimp [hlt, hw, hmin, hb64, hsh, hlnn, hC, hs]) | (with_reducible refine DT_regionE [0, 1, 2, 4, 5, 6, 7, 8, 9, 10, 15, 22, 42] ?_; simp -dsimp [hlt, hw, hmin, hb64, hsh, hlnn, hC, hs]) | (refine DT_cond rfl (fun h => ?_) (fun h => ?_) <;> (try simp only [nrm] at h) <;> (try exact Bool.noConfusion h))
          all_goals try simp -dsimp [hlt, hw, hmin, hb64, hsh, hlnn, hC, hs]
          all_goals try clear hs
          all_goals exact At.round ⟨k + 1, by omega⟩ (by simp only; omega) (Weak.of_keep [1,2,7,8,9] (by simp [hstep, wT7]))
        · rw [hcl, if_neg (by simpa using hC)] at hstep
          have hC' : ¬ ((C.length : Int) = 0) := by omega
          simp only [wT7]
          have hs : True := trivial
          repeat' first | (with_reducible first | refine q01 ?_ | refine q04 ?_ | refine q11 ?_ | refine q12 ?_ | refine q14 ?_) | (refine CallE.pure (c2) ?_; try simp -dsimp [hlt, hw, hmin, hb64, hsh, hlnn, hC, hC', hs]) | (refine CallE.pure (c3) ?_; try simp -dsimp [hlt, hw, hmin, hb64, hsh, hlnn, hC, hC', hs]) | (with_reducible refine DT_regionE [0, 1, 2, 4, 5, 6, 7, 8, 9, 10, 15, 22, 42] ?_; simp -dsimp [hlt, hw, hmin, hb64, hsh, hlnn, hC, hC', hs]) | (refine DT_cond rfl (fun h => ?_) (fun h => ?_) <;> (try simp only [nrm] at h) <;> (try exact Bool.noConfusion h))
          all_goals try simp -dsimp [hlt, hw, hmin, hb64, hsh, hlnn, hC, hC', hs]
          all_goals try clear hs
          all_goals exact At.round ⟨k + 1, by omega⟩ (by simp only; omega) (Weak.of_keep [1,2,7,8,9] (by simp [hstep, wT7]))
      | some b =>
        rw [ho] at hstep hwl
        have hbl := hwl b rfl
        have c4 := before3_c (G := G) (setL n k n.notes.length) b (by omega) (by omega)
        simp only [isv, bv] at c4
        simp only [wStep] at hstep
        generalize setL n k n.notes.length = L at *
        generalize clashL n s L = C at *
        cases hB : befL L b
        · rw [hB, if_neg (fun h => Bool.false_ne_true h.1)] at hstep
          rw [hB] at c4
          simp only [wT7, isv]
          have hs : True := trivial
          repeat' first | (with_reducible first | refine q01 ?_ | refine q04 ?_ | refine q11 ?_ | refine q12 ?_ | refine q14 ?_) | (refine CallE.pure (c2) ?_; try simp -dsimp [hlt, hw, hmin, hb64, hsh, hlnn, hs]) | (refine CallE.pure (c4) ?_; try simp -dsimp [hlt, hw, hmin, hb64, hsh, hlnn, hs]) | (with_reducible refine DT_regionE [0, 1, 2, 4, 5, 6, 7, 8, 9, 10, 15, 22, 42] ?_; simp -dsimp [hlt, hw, hmin, hb64, hsh, hlnn, hs]) | (refine DT_cond rfl (fun h => ?_) (fun h => ?_) <;> (try simp only [nrm] at h) <;> (try exact Bool.noConfusion h))
          all_goals try simp -dsimp [hlt, hw, hmin, hb64, hsh, hlnn, hs]
          all_goals try clear hs
          all_goals exact At.round ⟨k + 1, by omega⟩ (by simp only; omega) (Weak.of_keep [1,2,7,8,9] (by simp [hstep, wT7]))
        · rw [hB] at c4 hstep
          by_cases hC : C.length = 0
          · rw [hcl, if_pos (by simpa using hC)] at hstep
            simp only [wT7, isv]
            have hs : True := trivial
            repeat' first | (with_reducible first | refine q01 ?_ | refine q04 ?_ | refine q11 ?_ | refine q12 ?_ | refine q14 ?_) | (refine CallE.pure (c2) ?_; try simp -dsimp [hlt, hw, hmin, hb64, hsh, hlnn, hC, hs]) | (refine CallE.pure (c4) ?_; try simp -dsimp [hlt, hw, hmin, hb64, hsh, hlnn, hC, hs]) | (refine CallE.pure (c3) ?_; try simp -dsimp [hlt, hw, hmin, hb64, hsh, hlnn, hC, hs]) | (with_reducible refine DT_regionE [0, 1, 2, 4, 5, 6, 7, 8, 9, 10, 15, 22, 42] ?_; simp -dsimp [hlt, hw, hmin, hb64, hsh, hlnn, hC, hs]) | (refine DT_cond rfl (fun h => ?_) (fun h => ?_) <;> (try simp only [nrm] at h) <;> (try exact Bool.noConfusion h))
            all_goals try simp -dsimp [hlt, hw, hmin, hb64, hsh, hlnn, hC, hs]
            all_goals try clear hs
            all_goals exact At.round ⟨k + 1, by omega⟩ (by simp only; omega) (Weak.of_keep [1,2,7,8,9] (by simp [hstep, wT7]))
          · rw [hcl, if_neg (by simpa using hC)] at hstep
            have hC' : ¬ ((C.length : Int) = 0) := by omega
            simp only [wT7, isv]
            have hs : True := trivial
            repeat' first | (with_reducible first | refine q01 ?_ | refine q04 ?_ | refine q11 ?_ | refine q12 ?_ | refine q14 ?_) | (refine CallE.pure (c2) ?_; try simp -dsimp [hlt, hw, hmin, hb64, hsh, hlnn, hC, hC', hs]) | (refine CallE.pure (c4) ?_; try simp -dsimp [hlt, hw, hmin, hb64, hsh, hlnn, hC, hC', hs]) | (refine CallE.pure (c3) ?_; try simp -dsimp [hlt, hw, hmin, hb64, hsh, hlnn, hC, hC', hs]) | (with_reducible refine DT_regionE [0, 1, 2, 4, 5, 6, 7, 8, 9, 10, 15, 22, 42] ?_; simp -dsimp [hlt, hw, hmin, hb64, hsh, hlnn, hC, hC', hs]) | (refine DT_cond rfl (fun h => ?_) (fun h => ?_) <;> (try simp only [nrm] at h) <;> (try exact Bool.noConfusion h))
            all_goals try simp -dsimp [hlt, hw, hmin, hb64, hsh, hlnn, hC, hC', hs]
            all_goals try clear hs
            all_goals exact At.round ⟨k + 1, by omega⟩ (by simp only; omega) (Weak.of_keep [1,2,7,8,9] (by simp [hstep, wT7]))
    · obtain rfl : k = P := by omega
      cases ho : wTo n s k with
      | none =>
        simp only [wT7]
        have hs : True := trivial
        repeat' first | (with_reducible first | refine q01 ?_ | refine q03 ?_ | refine q06 ?_ | refine q11 ?_ | refine q16 ?_ | refine q17 ?_) | (with_reducible refine At.fn_ret (by simp -dsimp [hlt, hmin, hb64, hsh, hlnn, hs]; exact rfl) ?_) | (with_reducible refine DT_regionE [0, 1, 2, 4, 5, 6, 7, 8, 9, 10, 15, 22, 42] ?_; simp -dsimp [hlt, hmin, hb64, hsh, hlnn, hs]) | (refine DT_cond rfl (fun h => ?_) (fun h => ?_) <;> (try simp only [nrm] at h) <;> (try exact Bool.noConfusion h))
        all_goals try simp -dsimp [hlt, hmin, hb64, hsh, hlnn, hs]
        all_goals try clear hs
        all_goals simp
      | some b =>
        simp only [wT7, isv]
        have hs : True := trivial
        repeat' first | (with_reducible first | refine q01 ?_ | refine q03 ?_ | refine q06 ?_ | refine q11 ?_ | refine q16 ?_ | refine q17 ?_) | (with_reducible refine At.fn_ret (by simp -dsimp [hlt, hmin, hb64, hsh, hlnn, hs]; exact rfl) ?_) | (with_reducible refine DT_regionE [0, 1, 2, 4, 5, 6, 7, 8, 9, 10, 15, 22, 42] ?_; simp -dsimp [hlt, hmin, hb64, hsh, hlnn, hs]) | (refine DT_cond rfl (fun h => ?_) (fun h => ?_) <;> (try simp only [nrm] at h) <;> (try exact Bool.noConfusion h))
        all_goals try simp -dsimp [hlt, hmin, hb64, hsh, hlnn, hs]
        all_goals try clear hs
        all_goals simp
  · rw [if_neg h0]
    simp only [isv, iv] at c1
    have hs : True := trivial
    repeat' first | (with_reducible first | refine q01 ?_ | refine q02 ?_ | refine q11 ?_ | refine q17 ?_) | (with_reducible refine At.fn_ret (by simp -dsimp [h0, hs]; exact rfl) ?_) | (refine CallE.pure (c1) ?_; try simp -dsimp [h0, hs]) | (with_reducible refine DT_regionE [0, 1, 2, 4, 5, 6, 7, 8, 9, 10, 15, 22, 42] ?_; simp -dsimp [h0, hs]) | (refine DT_cond rfl (fun h => ?_) (fun h => ?_) <;> (try simp only [nrm] at h) <;> (try exact Bool.noConfusion h))
    all_goals try simp -dsimp [h0, hs]
    all_goals try clear hs
    all_goals simp [h0]
end Go.Proofs
namespace Go.Proofs
open Go Go.Ab
theorem wTo_best (n : Notes) (s : List Int) : ∀ k, wTo n s k = bestL (clB n s) (fun j => setL n j n.notes.length) k
  | 0 => rfl
  | k + 1 => by
    rw [wTo, bestL, wTo_best n s k]
    cases bestL (clB n s) (fun j => setL n j n.notes.length) k <;> simp [wStep, Bool.and_eq_true]
theorem wTo_sizes (n : Notes) (s : List Int) (hN : (n.notes.map fun x => x.number).Nodup) : wTo n s (2 ^ n.notes.length) = sizesL (clB n s) (isort (n.notes.map fun x => x.number)) (n.notes.length + 1) := by
  have h := sel_all hN
  rw [List.length_map] at h
  have e := best_eq (p := clB n s) (isort_strict hN) (f := fun j => setL n j n.notes.length) (k := 2 ^ n.notes.length) (fun i hi => h.1 i hi) (fun z hz => h.2 z hz)
  rw [wTo_best, ← e, isort_len, List.length_map]
theorem wR_search {n : Notes} {s : List Int} (h0 : askedE n s 1 = 0) : wR n s = (sizesL (clB n s) (isort (n.notes.map fun x => x.number)) (n.notes.length + 1)).getD [] := by
  rw [wR, if_pos h0, wTo_sizes n s (nums_nodup (notes_ok (asked_ok h0).1).2.2.1)]
end Go.Proofs
namespace Go.Ab
open Go
theorem findL_short {p : List Int → Bool} : ∀ (A : List Int) (k : Nat) (l : List Int), A.length < k → findL p A k l = none
  | A, 0, l, h => by omega
  | [], k + 1, l, _ => rfl
  | a :: r, k + 1, l, h => by
    simp only [List.length_cons] at h
    simp only [findL, findL_short r k (l ++ [a]) (by omega), findL_short r (k + 1) l (by omega)]
theorem findL_len {p : List Int → Bool} : ∀ (A : List Int) (k : Nat) (l x : List Int), findL p A k l = some x → x.length = l.length + k
  | A, 0, l, x, h => by
    rw [findL_zero] at h
    split at h
    · cases h; rfl
    · cases h
  | [], k + 1, l, x, h => by cases h
  | a :: r, k + 1, l, x, h => by
    simp only [findL] at h
    split at h
    · rename_i y h1
      cases h
      have := findL_len r k (l ++ [a]) _ h1
      simp at this; omega
    · exact findL_len r (k + 1) l x h
theorem findL_at {p : List Int → Bool} {A : List Int} {i k : Nat} {l : List Int} (h : i < A.length) : findL p (A.drop i) (k + 1) l = match findL p (A.drop (i + 1)) k (l ++ [A[i]]) with
    | some x => some x
    | none => findL p (A.drop (i + 1)) (k + 1) l := by
  rw [List.drop_eq_getElem_cons h]; rfl
theorem sizesL_next {p : List Int → Bool} {A : List Int} {k : Nat} (h1 : sizesL p A k = none) : sizesL p A (k + 1) = findL p A k [] := by
  simp only [sizesL, h1]
theorem sizesL_mono {p : List Int → Bool} {A x : List Int} {k : Nat} (h : sizesL p A k = some x) : ∀ d, sizesL p A (k + d) = some x
  | 0 => h
  | d + 1 => by
    rw [← Nat.add_assoc]
    simp only [sizesL, sizesL_mono h d]
theorem sizesL_hit {p : List Int → Bool} {A x : List Int} {k m : Nat} (h1 : sizesL p A k = none) (h2 : findL p A k [] = some x) (h : k < m) : sizesL p A m = some x := by
  have := sizesL_mono (sizesL_next h1 ▸ h2 : sizesL p A (k + 1) = some x) (m - (k + 1))
  rwa [show k + 1 + (m - (k + 1)) = m by omega] at this
/-- A list, or a nil slice. -/
def resV : Option (List Int) → DV
  | some x => isv x
  | none => .one (.im (.raw (.slice none 0 0)))
end Go.Ab
namespace Go.Proofs
open Go Go.Ab
set_option linter.unusedSimpArgs false
variable {G : Nat → Option (List IC)}
attribute [simp] permL reO gones noLoop nilV nilX
theorem cloneN_c (l : List Int) (hl : l.length < 1000) : DCall Tryd.prog G 71 [isv l] [] (fun d o => ∃ i : Nat × Bool, (i.2 = true → l = []) ∧ d = .one (.vec 1 i.1 0 l.length) ∧ o = [.vec 1 [] 0 true, .vec 1 (ims (l.map encI)) i.1 i.2]) := by
  refine DCall_intro Tryd.func71 rfl Tryd.ntmps71 (by simp) rfl ?_
  simp only [isv]
  have hs : True := trivial
  repeat' first | (with_reducible first | refine q01 ?_ | refine q02 ?_ | refine q11 ?_ | refine q14 ?_ | refine q17 ?_ | refine And.intro (by omega) ?_) | (with_reducible refine At.fn_ret (by simp -dsimp [hs]; exact rfl) ?_) | (with_reducible refine DT_regionE [0, 2, 4] ?_; simp -dsimp [hs]) | (refine DT_cond rfl (fun h => ?_) (fun h => ?_) <;> (try simp only [nrm] at h) <;> (try exact Bool.noConfusion h)) | (with_reducible refine imp_At (fun h => ?_); (try simp only [List.map_eq_nil_iff] at h); (try subst h); try simp -dsimp [hs]) | with_reducible refine And.intro ?_ ?_
  all_goals try simp -dsimp [hs]
  all_goals try clear hs
def wObjs (n : Notes) (s A : List Int) (g sz : Nat) (nl : Bool) : List DObj := [.row [.im (fileI n)], .row [.im (.sl (s.map encI))], .row [.vec 3 g 0 A.length], .vec sz (ims (A.map encI)) g nl, .row [.fn (.func 70) [.ptr 0 0, .ptr 1 0, .ptr 2 0, .ptr 4 0]]]
theorem list_c (n : Notes) (s A : List Int) (g sz : Nat) (nl : Bool) (hz : (sz = 1 ∧ nl = false) ∨ A = []) (hS : SortOk G) (hok : allOk n) (hn : n.notes.length ≤ 16) (hsl : s.length < 1000) (hA : A.length ≤ 16) : ∀ (k fr : Nat) (l : List Int), fr ≤ A.length → l.length + k ≤ 16 →
    DCall Tryd.prog G 70 [iv (fr : Int), iv (k : Int), isv l, .one (.ptr 0 0), .one (.ptr 1 0), .one (.ptr 2 0), .one (.ptr 4 0)] (wObjs n s A g sz nl) (fun d o => d = resV (findL (clB n s) (A.drop fr) k l) ∧ o = wObjs n s A g sz nl) := by
  intro k
  induction k with
  | zero =>
    intro fr l hfr hll
    have c1 := clash_c (G := G) n s l hS hok hn hsl (by omega)
    have e : findL (clB n s) (A.drop fr) 0 l = if (clashL n s l).length = 0 then some l else none := by rw [findL_zero]; simp [clB]
    refine DCall.drop (DCall.nil ?_)
    refine DCall_intro Tryd.func70 rfl Tryd.ntmps70 (by simp) rfl ?_
    simp only [iv, isv, wObjs, fileI] at c1 ⊢
    rw [e]
    generalize clashL n s l = C at *
    by_cases hC : C.length = 0
    · have hs : True := trivial
      repeat' first | (with_reducible first | refine q01 ?_ | refine q02 ?_ | refine q11 ?_ | refine q17 ?_) | (with_reducible refine At.fn_ret (by simp -dsimp [hC, hs]; exact rfl) ?_) | (refine CallE.pure (c1) ?_; try simp -dsimp [hC, hs]) | (with_reducible refine DT_regionE [0, 1, 2, 3, 4, 5, 6, 10, 11, 12, 14, 20, 28, 46] ?_; simp -dsimp [hC, hs]) | (refine DT_cond rfl (fun h => ?_) (fun h => ?_) <;> (try simp only [nrm] at h) <;> (try exact Bool.noConfusion h)) | with_reducible refine And.intro ?_ ?_
      all_goals try simp -dsimp [hC, hs]
      all_goals try clear hs
      all_goals simp [resV]
    · have hC' : ¬ ((C.length : Int) = 0) := by omega
      have hs : True := trivial
      repeat' first | (with_reducible first | refine q01 ?_ | refine q02 ?_ | refine q11 ?_ | refine q14 ?_ | refine q17 ?_) | (with_reducible refine At.fn_ret (by simp -dsimp [hC, hC', hs]; exact rfl) ?_) | (refine CallE.pure (c1) ?_; try simp -dsimp [hC, hC', hs]) | (with_reducible refine DT_regionE [0, 1, 2, 3, 4, 5, 6, 10, 11, 12, 14, 20, 28, 46] ?_; simp -dsimp [hC, hC', hs]) | (refine DT_cond rfl (fun h => ?_) (fun h => ?_) <;> (try simp only [nrm] at h) <;> (try exact Bool.noConfusion h)) | with_reducible refine And.intro ?_ ?_
      all_goals try simp -dsimp [hC, hC', hs]
      all_goals try clear hs
      all_goals simp [resV]
  | succ k ih =>
    intro fr l hfr hll
    have hk0 : ¬ (k : Int) + 1 = 0 := by omega
    have hcl := cloneN_c (G := G) l (by omega)
    refine DCall.drop (DCall.nil ?_)
    refine DCall_intro Tryd.func70 rfl Tryd.ntmps70 (by simp) rfl ?_
    rw [show ((k + 1 : Nat) : Int) = (k : Int) + 1 from rfl]
    simp only [iv, isv, wObjs, fileI] at ih hcl ⊢
    have hs : True := trivial
    repeat' first | (with_reducible first | refine q01 ?_ | refine q11 ?_ | refine q12 ?_ | refine q14 ?_) | (with_reducible refine DT_regionE [0, 1, 2, 3, 4, 5, 6, 10, 11, 12, 14, 20, 28, 46] ?_; simp -dsimp [hk0, hs]) | (refine DT_cond rfl (fun h => ?_) (fun h => ?_) <;> (try simp only [nrm] at h) <;> (try exact Bool.noConfusion h))
    all_goals try simp -dsimp [hk0, hs]
    all_goals try clear hs
    refine DT_loop (ι := { i : Nat // fr ≤ i ∧ i ≤ A.length ∧ findL (clB n s) (A.drop fr) (k + 1) l = findL (clB n s) (A.drop i) (k + 1) l }) (fun p => ⟨48, [(1, iv ((k : Int) + 1)), (2, isv l), (3, .one (.ptr 0 0)), (4, .one (.ptr 1 0)), (5, .one (.ptr 2 0)), (6, .one (.ptr 4 0)), (11, iv (p.1 : Int))], wObjs n s A g sz nl⟩) (fun p => A.length - p.1) ⟨fr, Nat.le_refl _, hfr, rfl⟩ (Weak.of_drop [1,2,3,4,5,6,11] 5 (by simp) (by simp) (by simp [wObjs, fileI])) ?_
    rintro ⟨i, hfi, hiA, hf⟩
    simp only [iv, isv, wObjs, fileI]
    have hw1 : IntKind.i64.wrap ((i : Int) + ((k : Int) + 1)) = (i : Int) + ((k : Int) + 1) := i64w (by omega) (by omega)
    by_cases hlt : i + (k + 1) ≤ A.length
    · have hlti : (i : Int) + ((k : Int) + 1) ≤ A.length := by omega
      have hiL : i < A.length := by omega
      obtain ⟨rfl, rfl⟩ := hz.resolve_right (fun e => by rw [e] at hiL; simp at hiL)
      have hw2 : IntKind.i64.wrap ((i : Int) + 1) = ((i + 1 : Nat) : Int) := i64w (by omega) (by omega)
      have hw3 : IntKind.i64.wrap (k : Int) = k := i64w (by omega) (by omega)
      have hat := findL_at (p := clB n s) (k := k) (l := l) hiL
      have c2 := ih (i + 1) (l ++ [A[i]]) (by omega) (by simp; omega)
      generalize hx : A[i] = x at *
      generalize hF : findL (clB n s) (A.drop (i + 1)) k (l ++ [x]) = r at *
      have hfz : ∀ (m : Nat) (O : List DObj), mapO (mapO (frz 19 m O)) (List.take (l.length + 1) (ims (l.map encI) ++ [[DC.im (.raw (.int .i64 x))]])) = some (l.map encI ++ [[.raw (.int .i64 x)]]) := fun m O => by
        rw [List.take_of_length_le (by simp), show ims (l.map encI) ++ [[DC.im (.raw (.int .i64 x))]] = ims (l.map encI ++ [[.raw (.int .i64 x)]]) by simp]
        exact mapO_ims _ _ _ _
      cases r with
      | none =>
        simp only [resV] at c2
        have hs : True := trivial
        repeat' first | (with_reducible first | refine q01 ?_ | refine q04 ?_ | refine q11 ?_ | refine q12 ?_ | refine q14 ?_ | refine And.intro (by omega) ?_) | (refine DT_regionY (id := 8) (nt := 48) [0,1,2,3,4,5,7,8,9,10,11,6,12,13,14] 11 [0,1,2,3,4,6,7,8,9,10] [0,1,2,3,4] [0,1,2,3,4,5,6,10,11,12,14,20,28,36,46] [0,1,2,3,4,5,6,10,11,12,14,20,28,37,42,46] [0,1,2,3,4,5,6,10,11,12,14,20,28,46] mixed rfl (by kernel_rfl) (by kernel_rfl) ?_; try simp -dsimp [hw1, hw2, hw3, hlti, hiL, hx, hs]) | (refine CallE.embed_ex [] (hcl) ?_ ?_ ?_ ?_ ?_ ?_; (focus (simp [emb]; done)); (focus (simp; done)); (focus (simp; done)); (focus (simp; done)); (focus (refine emb_all ?_; simp [emb, embAll]; done)); intro mm hmm; try simp -dsimp [mergeO, emb, hw1, hw2, hw3, hlti, hiL, hx, hs]) | (refine CallE.idle ?_; refine CallE.freeze 5 c2 ?_ ?_ ?_ ?_ ?_ ?_; (focus (simp; done)); (focus (simp [hfz]; done)); (focus (simp; done)); (focus rfl); (focus (simp; done)); try simp; try simp -dsimp [hw1, hw2, hw3, hlti, hiL, hx, hs]) | (with_reducible refine DT_regionE [0, 1, 2, 3, 4, 5, 6, 10, 11, 12, 14, 20, 28, 46] ?_; simp -dsimp [hw1, hw2, hw3, hlti, hiL, hx, hs]) | (refine DT_cond rfl (fun h => ?_) (fun h => ?_) <;> (try simp only [nrm] at h) <;> (try exact Bool.noConfusion h))
        all_goals try simp -dsimp [hw1, hw2, hw3, hlti, hiL, hx, hs]
        all_goals try clear hs
        all_goals exact At.round ⟨i + 1, by omega, by omega, by rw [hf, hat]⟩ (by simp only; omega) (Weak.of_drop [1,2,3,4,5,6,11] 5 (by simp) (by simp) (by simp [wObjs, fileI]))
      | some y =>
        have hy : y ≠ [] := fun e => by
          have := findL_len _ _ _ _ hF
          rw [e] at this; simp only [List.length_nil, List.length_append, List.length_cons] at this; omega
        simp only [resV, isv] at c2
        have hs : True := trivial
        repeat' first | (with_reducible first | refine q01 ?_ | refine q02 ?_ | refine q05 ?_ | refine q11 ?_ | refine q12 ?_ | refine q14 ?_ | refine q17 ?_ | refine And.intro (by omega) ?_) | (with_reducible refine At.fn_ret (by simp -dsimp [hw1, hw2, hw3, hlti, hiL, hx, hy, hs]; exact rfl) ?_) | (refine DT_regionY (id := 8) (nt := 48) [0,1,2,3,4,5,7,8,9,10,11,6,12,13,14] 11 [0,1,2,3,4,6,7,8,9,10] [0,1,2,3,4] [0,1,2,3,4,5,6,10,11,12,14,20,28,36,46] [0,1,2,3,4,5,6,10,11,12,14,20,28,37,42,46] [0,1,2,3,4,5,6,10,11,12,14,20,28,46] mixed rfl (by kernel_rfl) (by kernel_rfl) ?_; try simp -dsimp [hw1, hw2, hw3, hlti, hiL, hx, hy, hs]) | (refine CallE.embed_ex [] (hcl) ?_ ?_ ?_ ?_ ?_ ?_; (focus (simp [emb]; done)); (focus (simp; done)); (focus (simp; done)); (focus (simp; done)); (focus (refine emb_all ?_; simp [emb, embAll]; done)); intro mm hmm; try simp -dsimp [mergeO, emb, hw1, hw2, hw3, hlti, hiL, hx, hy, hs]) | (refine CallE.freeze 5 c2 ?_ ?_ ?_ ?_ ?_ ?_; (focus (simp; done)); (focus (simp [hfz]; done)); (focus (simp; done)); (focus rfl); (focus (simp; done)); try simp; try simp -dsimp [hw1, hw2, hw3, hlti, hiL, hx, hy, hs]) | (with_reducible refine DT_regionE [0, 1, 2, 3, 4, 5, 6, 10, 11, 12, 14, 20, 28, 46] ?_; simp -dsimp [hw1, hw2, hw3, hlti, hiL, hx, hy, hs]) | (refine DT_cond rfl (fun h => ?_) (fun h => ?_) <;> (try simp only [nrm] at h) <;> (try exact Bool.noConfusion h)) | with_reducible refine And.intro ?_ ?_
        all_goals try simp -dsimp [hw1, hw2, hw3, hlti, hiL, hx, hy, hs]
        all_goals try clear hs
        all_goals simp [hf, hat, resV]
    · have hlti : ¬ (i : Int) + ((k : Int) + 1) ≤ A.length := by omega
      have hno : findL (clB n s) (A.drop fr) (k + 1) l = none := by rw [hf]; exact findL_short _ _ _ (by simp; omega)
      have hs : True := trivial
      repeat' first | (with_reducible first | refine q01 ?_ | refine q03 ?_ | refine q06 ?_ | refine q11 ?_ | refine q16 ?_ | refine q17 ?_) | (with_reducible refine At.fn_ret (by simp -dsimp [hw1, hlti, hs]; exact rfl) ?_) | (with_reducible refine DT_regionE [0, 1, 2, 3, 4, 5, 6, 10, 11, 12, 14, 20, 28, 46] ?_; simp -dsimp [hw1, hlti, hs]) | (refine DT_cond rfl (fun h => ?_) (fun h => ?_) <;> (try simp only [nrm] at h) <;> (try exact Bool.noConfusion h)) | with_reducible refine And.intro ?_ ?_
      all_goals try simp -dsimp [hw1, hlti, hs]
      all_goals try clear hs
      all_goals simp [hno, resV]
theorem listB_c (n : Notes) (s A : List Int) (g sz : Nat) (nl : Bool) (hS : SortOk G) (hok : allOk n) (hn : n.notes.length ≤ 16) (hsl : s.length < 1000) :
    DCall Tryd.prog G 70 [iv 0, iv 0, .one (.vec 5 0 0 0), .one (.ptr 0 0), .one (.ptr 1 0), .one (.ptr 2 0), .one (.ptr 4 0)] (wObjs n s A g sz nl ++ [.vec 1 [] 0 false]) (fun d o => d = (if (clashL n s []).length = 0 then .one (.vec 5 0 0 0) else .one (.im (.raw (.slice none 0 0)))) ∧ o = wObjs n s A g sz nl ++ [.vec 1 [] 0 false]) := by
  have c1 := clash_c (G := G) n s [] hS hok hn hsl (by simp)
  refine DCall.drop (DCall.nil ?_)
  refine DCall_intro Tryd.func70 rfl Tryd.ntmps70 (by simp) rfl ?_
  simp only [iv, isv, wObjs, fileI, List.map_nil] at c1 ⊢
  generalize clashL n s [] = C at *
  by_cases hC : C.length = 0
  · have hs : True := trivial
    repeat' first | (with_reducible first | refine q01 ?_ | refine q02 ?_ | refine q11 ?_ | refine q17 ?_) | (with_reducible refine At.fn_ret (by simp -dsimp [hC, hs]; exact rfl) ?_) | (refine CallE.empty ?_ (CallE.pure c1 ?_); (focus rfl); try simp -dsimp [hC, hs]) | (with_reducible refine DT_regionE [0, 1, 2, 3, 4, 5, 6, 10, 11, 12, 14, 20, 28, 46] ?_; simp -dsimp [hC, hs]) | (refine DT_cond rfl (fun h => ?_) (fun h => ?_) <;> (try simp only [nrm] at h) <;> (try exact Bool.noConfusion h)) | with_reducible refine And.intro ?_ ?_
    all_goals try simp -dsimp [hC, hs]
    all_goals try clear hs
  · have hC' : ¬ ((C.length : Int) = 0) := by omega
    have hs : True := trivial
    repeat' first | (with_reducible first | refine q01 ?_ | refine q02 ?_ | refine q11 ?_ | refine q14 ?_ | refine q17 ?_) | (with_reducible refine At.fn_ret (by simp -dsimp [hC, hC', hs]; exact rfl) ?_) | (refine CallE.empty ?_ (CallE.pure c1 ?_); (focus rfl); try simp -dsimp [hC, hC', hs]) | (with_reducible refine DT_regionE [0, 1, 2, 3, 4, 5, 6, 10, 11, 12, 14, 20, 28, 46] ?_; simp -dsimp [hC, hC', hs]) | (refine DT_cond rfl (fun h => ?_) (fun h => ?_) <;> (try simp only [nrm] at h) <;> (try exact Bool.noConfusion h)) | with_reducible refine And.intro ?_ ?_
    all_goals try simp -dsimp [hC, hC', hs]
    all_goals try clear hs
end Go.Proofs
namespace Go.Proofs
open Go Go.Ab
set_option linter.unusedSimpArgs false
variable {G : Nat → Option (List IC)}
def nbrL (l : List Note) : List Int := l.map fun x => x.number
theorem isort_length (l : List Int) : (isort l).length = l.length := (List.mergeSort_perm l _).length_eq
theorem nbrL_len (l : List Note) : (nbrL l).length = l.length := by simp [nbrL]
set_option maxHeartbeats 4000000 in
theorem nWithdraw_c (n : Notes) (s : List Int) (hG : sheetG G) (hN : noteG G) (hS : SortOk G) (hs : NSm n) (hsl : s.length < 1000) (objs : List DObj) : DCall Tryd.prog G 35 [notesv n, isv s] objs (fun rr objs' => rr = .tup [isv (wR n s), iv (askedE n s 1)] ∧ objs' = objs) := by
  refine DCall.frame ?_ (by simp) (by simp) objs
  refine DCall_intro Tryd.func35 rfl Tryd.ntmps35 (by simp) rfl ?_
  try simp only [notesv, isv]
  have c1 := asked_c n s 1 hG hN hS hs hsl
  by_cases h0 : askedE n s 1 = 0
  · rw [h0, show askedR n s 1 = .one (.im (fileI n)) by unfold askedR; rw [if_pos h0]] at c1
    have hnk := notes_ok (asked_ok h0).1
    have hlen := hnk.2.1
    have hsr := wR_search h0
    simp only [fileI, isv, iv, List.map_nil] at c1
    have hs : True := trivial
    repeat' first | (with_reducible first | refine q01 ?_ | refine q11 ?_ | refine q12 ?_ | refine q14 ?_) | (refine CallE.pure (c1) ?_; try simp -dsimp [hs]) | (with_reducible refine DT_regionE [0, 1, 2, 3, 4, 5, 6, 7, 8, 10, 11, 12, 13, 21, 24, 25, 26, 27, 41, 42, 43, 50] ?_; simp -dsimp [hs]) | (refine DT_cond rfl (fun h => ?_) (fun h => ?_) <;> (try simp only [nrm] at h) <;> (try exact Bool.noConfusion h))
    all_goals try simp -dsimp [hs]
    all_goals try clear hs
    refine DT_loop (ι := { p : Nat × Nat × Nat × Bool // p.1 ≤ n.notes.length ∧ ((p.2.2.1 = 1 ∧ p.2.2.2 = false) ∨ (p.2.2.1 = 0 ∧ p.2.2.2 = true ∧ p.1 = 0)) }) (fun p => ⟨53, [(3, .one (.ptr 1 0)), (4, .one (.vec 2 0 0 0)), (5, iv 0), (6, .one (.ptr 3 0)), (8, .one (.ptr 5 0)), (24, .one (.im (.sl (n.notes.map encNote)))), (25, iv (n.notes.length : Int)), (26, iv (p.1.1 : Int))], [.row [.im (.sl (n.reg.map encIssue)), .im (.sl (n.notes.map encNote))], .row [.im (.sl (s.map encI))], .vec 1 [] 0 true, .row [.im (fileI n)], .vec p.1.2.2.1 (ims ((nbrL (n.notes.take p.1.1)).map encI)) p.1.2.1 p.1.2.2.2, .row [.vec 4 p.1.2.1 0 p.1.1]]⟩) (fun p => n.notes.length - p.1.1) ⟨(0, 0, 0, true), by simp⟩ (Weak.of_keep [3,4,5,6,8,24,25,26] (by simp [fileI, nbrL])) ?_
    rintro ⟨⟨k, g, sz, nl⟩, hk, hz⟩
    simp only at hk hz
    simp only [iv, fileI]
    by_cases hlt : k < n.notes.length
    · have hw : IntKind.i64.wrap ((k : Int) + 1) = ((k + 1 : Nat) : Int) := i64w (by omega) (by omega)
      have htk : nbrL (n.notes.take (k + 1)) = nbrL (n.notes.take k) ++ [n.notes[k].number] := by rw [List.take_succ_eq_append_getElem hlt]; simp only [nbrL, List.map_append, List.map_cons, List.map_nil]
      have hll : (nbrL (n.notes.take k)).length = k := by rw [nbrL_len]; simp; omega
      generalize hx : n.notes[k] = x at *
      generalize nbrL (n.notes.take k) = L at *
      rcases hz with ⟨rfl, rfl⟩ | ⟨rfl, rfl, rfl⟩
      · subst hll
        have hs : True := trivial
        repeat' first | (with_reducible first | refine q01 ?_ | refine q04 ?_ | refine q11 ?_ | refine q12 ?_ | refine q14 ?_ | refine And.intro (by omega) ?_) | (with_reducible refine DT_regionE [0, 1, 2, 3, 4, 5, 6, 7, 8, 10, 11, 12, 13, 21, 24, 25, 26, 27, 41, 42, 43, 50] ?_; simp -dsimp [hx, hlt, hw, hs]) | (refine DT_cond rfl (fun h => ?_) (fun h => ?_) <;> (try simp only [nrm] at h) <;> (try exact Bool.noConfusion h))
        all_goals try simp -dsimp [hx, hlt, hw, hs]
        all_goals try clear hs
        all_goals exact At.round ⟨(L.length + 1, g + 1, 1, false), by omega, .inl ⟨rfl, rfl⟩⟩ (by simp only; omega) (Weak.of_drop [3,4,5,6,8,24,25,26] 6 (by simp) (by simp) (by simp [htk, fileI]))
      · obtain rfl := List.eq_nil_of_length_eq_zero hll
        have hw1 : IntKind.i64.wrap 1 = 1 := i64w (by omega) (by omega)
        have hs : True := trivial
        repeat' first | (with_reducible first | refine q01 ?_ | refine q04 ?_ | refine q11 ?_ | refine q12 ?_ | refine q14 ?_) | (with_reducible refine DT_regionE [0, 1, 2, 3, 4, 5, 6, 7, 8, 10, 11, 12, 13, 21, 24, 25, 26, 27, 41, 42, 43, 50] ?_; simp -dsimp [hx, hlt, hw, hw1, hs]) | (refine DT_cond rfl (fun h => ?_) (fun h => ?_) <;> (try simp only [nrm] at h) <;> (try exact Bool.noConfusion h))
        all_goals try simp -dsimp [hx, hlt, hw, hw1, hs]
        all_goals try clear hs
        all_goals exact At.round ⟨(1, g + 1, 1, false), by omega, .inl ⟨rfl, rfl⟩⟩ (by simp only; omega) (Weak.of_drop [3,4,5,6,8,24,25,26] 6 (by simp) (by simp) (by simp [htk, fileI, hw1]))
    · obtain rfl : k = n.notes.length := by omega
      rw [List.take_of_length_le (Nat.le_refl _)]
      have hL : (nbrL n.notes).length = n.notes.length := nbrL_len _
      have hz1 : sz = 1 ∨ nl = true ∧ nbrL n.notes = [] := hz.imp And.left fun h => ⟨h.2.1, List.eq_nil_of_length_eq_zero (by omega)⟩
      have hz2 : (sz = 1 ∧ nl = false) ∨ isort (nbrL n.notes) = [] := hz.imp id fun h => List.eq_nil_of_length_eq_zero (by rw [isort_length]; omega)
      have hAl : (isort (nbrL n.notes)).length = n.notes.length := by rw [isort_length, hL]
      have c2 := hS (nbrL n.notes) g sz nl hz1 (by omega)
      rw [show (n.notes.map fun x => x.number) = nbrL n.notes from rfl] at hsr
      have c3 := listB_c n s (isort (nbrL n.notes)) g sz nl hS hnk.2.2.1 (by omega) hsl
      have c4 := fun k hk => list_c n s (isort (nbrL n.notes)) g sz nl hz2 hS hnk.2.2.1 (by omega) hsl (by omega) k 0 [] (by omega) hk
      rw [hL] at c2
      generalize hA : isort (nbrL n.notes) = A at *
      simp only [wObjs, hAl, fileI, iv, isv, List.map_nil, List.length_nil, List.drop_zero] at c3 c4
      have hwl : IntKind.i64.wrap ((n.notes.length : Int) + 1) = (n.notes.length : Int) + 1 := i64w (by omega) (by omega)
      have hs : True := trivial
      repeat' first | (with_reducible first | refine q01 ?_ | refine q03 ?_ | refine q06 ?_ | refine q11 ?_ | refine q12 ?_ | refine q16 ?_) | (refine CallE.embed [4] (c2) ?_ ?_ ?_ ?_ ?_ ?_; (focus (simp [emb]; done)); (focus (simp; done)); (focus (simp; done)); (focus (simp; done)); (focus (refine emb_all ?_; simp [emb, embAll]; done)); try simp -dsimp [mergeO, emb, hlt, hwl, hs]) | (with_reducible refine DT_regionE [0, 1, 2, 3, 4, 5, 6, 7, 8, 10, 11, 12, 13, 21, 24, 25, 26, 27, 41, 42, 43, 50] ?_; simp -dsimp [hlt, hwl, hs]) | (refine DT_cond rfl (fun h => ?_) (fun h => ?_) <;> (try simp only [nrm] at h) <;> (try exact Bool.noConfusion h))
      all_goals try simp -dsimp [hlt, hwl, hs]
      all_goals try clear hs
      refine DT_loop (ι := { k : Nat // k ≤ n.notes.length + 1 ∧ sizesL (clB n s) A k = none }) (fun p => ⟨53, [(4, .one (.vec 2 0 0 0)), (5, iv 0), (11, .one (.ptr 6 0)), (41, iv ((n.notes.length : Int) + 1)), (42, iv (p.1 : Int))], [.row [.im (.sl (n.reg.map encIssue)), .im (.sl (n.notes.map encNote))], .row [.im (.sl (s.map encI))], .vec 1 [] 0 true, .row [.im (fileI n)], .vec sz (ims (A.map encI)) g nl, .row [.vec 4 g 0 n.notes.length], .row [.fn (.func 70) [.ptr 3 0, .ptr 1 0, .ptr 5 0, .ptr 6 0]]]⟩) (fun p => n.notes.length + 1 - p.1) ⟨0, by simp, rfl⟩ (Weak.of_keep [4,5,11,41,42] (by simp [fileI, hwl])) ?_
      rintro ⟨k, hk, hn0⟩
      simp only [iv, fileI]
      by_cases hlk : k < n.notes.length + 1
      · have hlki : (k : Int) < (n.notes.length : Int) + 1 := by omega
        have hw : IntKind.i64.wrap ((k : Int) + 1) = ((k + 1 : Nat) : Int) := i64w (by omega) (by omega)
        have hnx := sizesL_next hn0
        by_cases hk0 : k = 0
        · subst hk0
          have hf0 : findL (clB n s) A 0 [] = if (clashL n s []).length = 0 then some [] else none := by rw [findL_zero]; simp [clB]
          by_cases hC : (clashL n s []).length = 0
          · rw [if_pos hC] at c3 hf0
            have hR : wR n s = [] := by rw [hsr, sizesL_hit hn0 hf0 (by omega)]; rfl
            have hs : True := trivial
            repeat' first | (with_reducible first | refine q01 ?_ | refine q02 ?_ | refine q05 ?_ | refine q11 ?_ | refine q12 ?_ | refine q14 ?_ | refine q17 ?_) | (with_reducible refine At.fn_ret (by simp -dsimp [hlki, hs]; exact rfl) ?_) | (refine CallE.embed [3,1,5,4,6,7] (c3) ?_ ?_ ?_ ?_ ?_ ?_; (focus (simp [emb]; done)); (focus (simp; done)); (focus (simp; done)); (focus (simp; done)); (focus (refine emb_all ?_; simp [emb, embAll]; done)); try simp -dsimp [mergeO, emb, hlki, hs]) | (with_reducible refine DT_regionE [0, 1, 2, 3, 4, 5, 6, 7, 8, 10, 11, 12, 13, 21, 24, 25, 26, 27, 41, 42, 43, 50] ?_; simp -dsimp [hlki, hs]) | (refine DT_cond rfl (fun h => ?_) (fun h => ?_) <;> (try simp only [nrm] at h) <;> (try exact Bool.noConfusion h))
            all_goals try simp -dsimp [hlki, hs]
            all_goals try clear hs
            all_goals simp [hR, h0]
          · rw [if_neg hC] at c3 hf0
            rw [hf0] at hnx
            have hs : True := trivial
            repeat' first | (with_reducible first | refine q01 ?_ | refine q04 ?_ | refine q11 ?_ | refine q12 ?_ | refine q14 ?_) | (refine CallE.idle ?_; refine CallE.embed [3,1,5,4,6,7] (c3) ?_ ?_ ?_ ?_ ?_ ?_; (focus (simp [emb]; done)); (focus (simp; done)); (focus (simp; done)); (focus (simp; done)); (focus (refine emb_all ?_; simp [emb, embAll]; done)); try simp -dsimp [mergeO, emb]; try simp -dsimp [hlki, hs]) | (with_reducible refine DT_regionE [0, 1, 2, 3, 4, 5, 6, 7, 8, 10, 11, 12, 13, 21, 24, 25, 26, 27, 41, 42, 43, 50] ?_; simp -dsimp [hlki, hs]) | (refine DT_cond rfl (fun h => ?_) (fun h => ?_) <;> (try simp only [nrm] at h) <;> (try exact Bool.noConfusion h))
            all_goals try simp -dsimp [hlki, hs]
            all_goals try clear hs
            all_goals exact At.round ⟨1, by omega, hnx⟩ (by simp only; omega) (Weak.of_drop [4,5,11,41,42] 7 (by simp) (by simp) (by simp [fileI, i64w]))
        · have c5 := c4 k (by simp; omega)
          generalize hF : findL (clB n s) A k [] = r at *
          cases r with
          | none =>
            simp only [resV] at c5
            have hs : True := trivial
            repeat' first | (with_reducible first | refine q01 ?_ | refine q04 ?_ | refine q11 ?_ | refine q12 ?_ | refine q14 ?_) | (refine CallE.idle ?_; refine CallE.empty (args' := [.one (.im (.raw (.int .i64 0))), .one (.im (.raw (.int .i64 (k : Int)))), .one (.im (.sl [])), .one (.ptr 3 0), .one (.ptr 1 0), .one (.ptr 5 0), .one (.ptr 6 0)]) rfl ?_; refine CallE.embed [3,1,5,4,6] (c5) ?_ ?_ ?_ ?_ ?_ ?_; (focus (simp [emb]; done)); (focus (simp; done)); (focus (simp; done)); (focus (simp; done)); (focus (refine emb_all ?_; simp [emb, embAll]; done)); try simp -dsimp [mergeO, emb]; try simp -dsimp [hlki, hw, hs]) | (with_reducible refine DT_regionE [0, 1, 2, 3, 4, 5, 6, 7, 8, 10, 11, 12, 13, 21, 24, 25, 26, 27, 41, 42, 43, 50] ?_; simp -dsimp [hlki, hw, hs]) | (refine DT_cond rfl (fun h => ?_) (fun h => ?_) <;> (try simp only [nrm] at h) <;> (try exact Bool.noConfusion h))
            all_goals try simp -dsimp [hlki, hw, hs]
            all_goals try clear hs
            all_goals exact At.round ⟨k + 1, by omega, hnx⟩ (by simp only; omega) (Weak.of_drop [4,5,11,41,42] 7 (by simp) (by simp) (by simp [fileI]))
          | some y =>
            have hy : y ≠ [] := fun e => by
              have := findL_len _ _ _ _ hF
              rw [e] at this; simp only [List.length_nil] at this; omega
            have hR : wR n s = y := by rw [hsr, sizesL_hit hn0 hF hlk]; rfl
            simp only [resV, isv] at c5
            have hs : True := trivial
            repeat' first | (with_reducible first | refine q01 ?_ | refine q02 ?_ | refine q05 ?_ | refine q11 ?_ | refine q12 ?_ | refine q14 ?_ | refine q17 ?_) | (with_reducible refine At.fn_ret (by simp -dsimp [hlki, hw, hy, hs]; exact rfl) ?_) | (refine CallE.empty (args' := [.one (.im (.raw (.int .i64 0))), .one (.im (.raw (.int .i64 (k : Int)))), .one (.im (.sl [])), .one (.ptr 3 0), .one (.ptr 1 0), .one (.ptr 5 0), .one (.ptr 6 0)]) rfl ?_; refine CallE.embed [3,1,5,4,6] (c5) ?_ ?_ ?_ ?_ ?_ ?_; (focus (simp [emb]; done)); (focus (simp; done)); (focus (simp; done)); (focus (simp; done)); (focus (refine emb_all ?_; simp [emb, embAll]; done)); try simp -dsimp [mergeO, emb]; try simp -dsimp [hlki, hw, hy, hs]) | (with_reducible refine DT_regionE [0, 1, 2, 3, 4, 5, 6, 7, 8, 10, 11, 12, 13, 21, 24, 25, 26, 27, 41, 42, 43, 50] ?_; simp -dsimp [hlki, hw, hy, hs]) | (refine DT_cond rfl (fun h => ?_) (fun h => ?_) <;> (try simp only [nrm] at h) <;> (try exact Bool.noConfusion h))
            all_goals try simp -dsimp [hlki, hw, hy, hs]
            all_goals try clear hs
            all_goals simp [hR, h0]
      · obtain rfl : k = n.notes.length + 1 := by omega
        have hR : wR n s = [] := by rw [hsr, hn0]; rfl
        have hlki : ¬ (((n.notes.length + 1 : Nat) : Int)) < (n.notes.length : Int) + 1 := by omega
        have hs : True := trivial
        repeat' first | (with_reducible first | refine q01 ?_ | refine q03 ?_ | refine q06 ?_ | refine q11 ?_ | refine q16 ?_ | refine q17 ?_) | (with_reducible refine At.fn_ret (by simp -dsimp [hlki, hs]; exact rfl) ?_) | (with_reducible refine DT_regionE [0, 1, 2, 3, 4, 5, 6, 7, 8, 10, 11, 12, 13, 21, 24, 25, 26, 27, 41, 42, 43, 50] ?_; simp -dsimp [hlki, hs]) | (refine DT_cond rfl (fun h => ?_) (fun h => ?_) <;> (try simp only [nrm] at h) <;> (try exact Bool.noConfusion h))
        all_goals try simp -dsimp [hlki, hs]
        all_goals try clear hs
        all_goals simp [hR, h0]
  · have hE : wR n s = [] := by unfold wR; rw [if_neg h0]
    rw [show askedR n s 1 = .one (.im (.raw (.pointer none))) by unfold askedR; rw [if_neg h0]] at c1
    simp only [isv, iv] at c1
    have hs : True := trivial
    repeat' first | (with_reducible first | refine q01 ?_ | refine q02 ?_ | refine q11 ?_ | refine q17 ?_) | (with_reducible refine At.fn_ret (by simp -dsimp [h0, hs]; exact rfl) ?_) | (refine CallE.pure (c1) ?_; try simp -dsimp [h0, hs]) | (with_reducible refine DT_regionE [0, 1, 2, 3, 4, 5, 6, 7, 8, 10, 11, 12, 13, 21, 24, 25, 26, 27, 41, 42, 43, 50] ?_; simp -dsimp [h0, hs]) | (refine DT_cond rfl (fun h => ?_) (fun h => ?_) <;> (try simp only [nrm] at h) <;> (try exact Bool.noConfusion h))
    all_goals try simp -dsimp [h0, hs]
    all_goals try clear hs
    all_goals simp [h0, hE]
end Go.Proofs
namespace Go.Proofs
open Go Go.Ab
set_option linter.unusedSimpArgs false
variable {G : Nat → Option (List IC)}
set_option maxHeartbeats 2000000 in
theorem noteClashes_c (n : Notes) (s : List Int) (hG : sheetG G) (hN : noteG G) (hS : SortOk G) (hk : NKind n) (objs : List DObj) : DCall Tryd.prog G 6 [notesv n, isv s] objs (fun rr objs' => rr = bv true ∧ objs' = objs) := by
  refine DCall.frame ?_ (by simp) (by simp) objs
  refine DCall_intro Tryd.func6 rfl Tryd.ntmps6 (by simp) rfl ?_
  try simp only [notesv, isv]
  have c1 := great3_c (G := G) n
  cases hq : smallNB n
  · rw [hq] at c1
    have hs : True := trivial
    repeat' first | (with_reducible first | refine q01 ?_ | refine q02 ?_ | refine q11 ?_ | refine q17 ?_) | (with_reducible refine At.fn_ret (by simp -dsimp [hs]; exact rfl) ?_) | (refine CallE.pure (c1) ?_; try simp -dsimp [hs]) | (with_reducible refine DT_regionE [0, 1, 2, 4, 5, 6, 7, 8, 9, 10, 11, 12, 13, 20] ?_; simp -dsimp [hs]) | (refine DT_cond rfl (fun h => ?_) (fun h => ?_) <;> (try simp only [nrm] at h) <;> (try exact Bool.noConfusion h))
    all_goals try simp -dsimp [hs]
    all_goals try clear hs
  · obtain ⟨hsn, hs⟩ := NSm_of hk hq
    rw [hq] at c1
    by_cases hl : 20 < s.length
    · have hli : (20 : Int) < s.length := by omega
      have hs : True := trivial
      repeat' first | (with_reducible first | refine q01 ?_ | refine q02 ?_ | refine q11 ?_ | refine q17 ?_) | (with_reducible refine At.fn_ret (by simp -dsimp [hli, hs]; exact rfl) ?_) | (refine CallE.pure (c1) ?_; try simp -dsimp [hli, hs]) | (with_reducible refine DT_regionE [0, 1, 2, 4, 5, 6, 7, 8, 9, 10, 11, 12, 13, 20] ?_; simp -dsimp [hli, hs]) | (refine DT_cond rfl (fun h => ?_) (fun h => ?_) <;> (try simp only [nrm] at h) <;> (try exact Bool.noConfusion h))
      all_goals try simp -dsimp [hli, hs]
      all_goals try clear hs
    · have hli : ¬ (20 : Int) < s.length := by omega
      have hsl : s.length < 1000 := by omega
      have hn16 := hs.2.1
      have c2 := twin3_c (G := G) n hsn
      have c3 := nClash_c n s hG hN hS hs hsl
      have c4 := rClash_c (G := G) n s hs hsl
      have c5 := nWithdraw_c n s hG hN hS hs hsl
      have c6 := rWithdraw_c (G := G) n s hs hsl
      have c8 := same3_c (G := G) n hsn
      have hcl : (clashR n s).length < 1000000 := by
        unfold clashR
        split
        · have h1 := clTo_len n s [] n.notes.length
          have h2 : n.notes.length * n.notes.length ≤ 16 * 16 := Nat.mul_le_mul hn16 hn16
          show (clTo n s [] n.notes.length).length < 1000000
          omega
        · simp
      have hwl : (wR n s).length < 1000000 := by
        unfold wR
        split
        · cases h : wTo n s (2 ^ n.notes.length) with
          | none => simp
          | some b =>
            have := wTo_len n s _ b h
            simp only [Option.getD_some]; omega
        · simp
      have c7 := samePairs_c (G := G) (clashR n s) hcl
      have c9 := sameInts_c (G := G) (wR n s) (wR n s) hwl
      generalize clashR n s = C at *
      generalize wR n s = L at *
      have hs : True := trivial
      repeat' first | (with_reducible first | refine q01 ?_ | refine q11 ?_ | refine q14 ?_ | refine q17 ?_) | (with_reducible refine At.fn_ret (by simp -dsimp [hli, hs]; exact rfl) ?_) | (refine CallE.pure (c1) ?_; try simp -dsimp [hli, hs]) | (refine CallE.pure (c2) ?_; try simp -dsimp [hli, hs]) | (refine CallE.pure (c3) ?_; try simp -dsimp [hli, hs]) | (refine CallE.pure (c4) ?_; try simp -dsimp [hli, hs]) | (refine CallE.pure (c5) ?_; try simp -dsimp [hli, hs]) | (refine CallE.pure (c6) ?_; try simp -dsimp [hli, hs]) | (refine CallE.pure (c7) ?_; try simp -dsimp [hli, hs]) | (refine CallE.pure (c8) ?_; try simp -dsimp [hli, hs]) | (refine CallE.pure (c9) ?_; try simp -dsimp [hli, hs]) | (with_reducible refine DT_regionE [0, 1, 2, 4, 5, 6, 7, 8, 9, 10, 11, 12, 13, 20] ?_; simp -dsimp [hli, hs]) | (refine DT_cond rfl (fun h => ?_) (fun h => ?_) <;> (try simp only [nrm] at h) <;> (try exact Bool.noConfusion h))
      all_goals try simp -dsimp [hli, hs]
      all_goals try clear hs
end Go.Proofs
