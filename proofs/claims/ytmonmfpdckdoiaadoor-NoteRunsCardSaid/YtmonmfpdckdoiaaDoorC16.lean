/- Part 16 of the proof whose last text closes the card: laws and walks that hold without conditions beyond those that each theorem names. -/
import Derived.Test.YtmonmfpdckdoiaaDoorC15
set_option linter.all false
set_option linter.deprecated false
namespace Go.Ab
open Go
structure Str where
  frm : Int
  to : Int
  letter : Int
  deriving DecidableEq
def encStr (x : Str) : List IC := [rI x.frm, rI x.to, rI x.letter]
def strv (l : List Str) : DV := .one (.im (.sl (l.map encStr)))
attribute [simp] encStr strv
/-- A machine more, as the program has it: all go on to the last machine. -/
def stepP (L : List Str) (m c : Int) : List Str := match L.getLast? with
  | none => [⟨m, 999, c⟩]
  | some y => if (⟨y.frm, 999, c⟩ : Str) = y then L else L.dropLast ++ [⟨y.frm, m - 1, y.letter⟩] ++ [⟨m, 999, c⟩]
/-- A machine more, as the reference has it. -/
def stepR (L : List Str) (m c : Int) : List Str := match L.getLast? with
  | none => [⟨m, m, c⟩]
  | some y => if y.letter = c then L.dropLast ++ [⟨y.frm, m, y.letter⟩] else L ++ [⟨m, m, c⟩]
def strP (f : Int → Int) (M : List Int) : List Str := M.foldl (fun L m => stepP L m (f m)) []
def strR (f : Int → Int) : Nat → List Str
  | 0 => []
  | k + 1 => stepR (strR f k) ((k : Int) + 1) (f ((k : Int) + 1))
def capS (m : Int) (L : List Str) : List Str := match L.getLast? with
  | none => []
  | some y => L.dropLast ++ [⟨y.frm, m, y.letter⟩]
theorem upto_succ : ∀ (M : List Int) (k : Int), M.Pairwise (· < ·) → M.filter (fun m => decide (m ≤ k + 1)) = M.filter (fun m => decide (m ≤ k)) ++ (if k + 1 ∈ M then [k + 1] else [])
  | [], k, _ => by simp
  | a :: r, k, h => by
    obtain ⟨h1, h2⟩ := List.pairwise_cons.1 h
    have ih := upto_succ r k h2
    simp only [List.filter_cons, ih]
    by_cases ha : a ≤ k
    · have : a ≤ k + 1 := by omega
      have hne : ¬ k + 1 = a := by omega
      simp [ha, this, hne]
    · have hr : r.filter (fun m => decide (m ≤ k)) = [] := List.filter_eq_nil_iff.2 fun x hx => by have := h1 x hx; simp; omega
      by_cases ha1 : a = k + 1
      · have hnr : ¬ k + 1 ∈ r := fun hm => by have := h1 _ hm; omega
        subst ha1
        simp [hr, hnr]; omega
      · have hnr : ¬ k + 1 ∈ r := fun hm => by have := h1 _ hm; omega
        have : ¬ a ≤ k + 1 := by omega
        have hne : ¬ k + 1 = a := fun e => ha1 e.symm
        simp [ha, this, hr, hnr, hne]
theorem last_snoc (L : List Str) (y : Str) : (L ++ [y]).getLast? = some y := by simp
theorem of_last {L : List Str} {y : Str} (h : L.getLast? = some y) : L = L.dropLast ++ [y] := by
  have hne : L ≠ [] := by rintro rfl; simp at h
  have := (List.dropLast_concat_getLast hne).symm
  rw [List.getLast?_eq_some_getLast hne] at h
  rw [Option.some.inj h] at this; exact this
/-- Both have the same stretches: the letters turn at marks alone. -/
theorem str_eq (f : Int → Int) (M : List Int) (hM : M.Pairwise (· < ·)) (h1 : 1 ∈ M) (hlo : ∀ m ∈ M, 1 ≤ m) (hf : ∀ k : Nat, 1 ≤ k → k < 999 → ¬ ((k : Int) + 1) ∈ M → f ((k : Int) + 1) = f k) :
    ∀ k : Nat, 1 ≤ k → k ≤ 999 → ∃ y, (strP f (M.filter fun m => decide (m ≤ (k : Int)))).getLast? = some y ∧ y.to = 999 ∧ y.letter = f k ∧ strR f k = capS k (strP f (M.filter fun m => decide (m ≤ (k : Int))))
  | 0, h, _ => by omega
  | 1, _, _ => by
    have h0 : M.filter (fun m => decide (m ≤ (0 : Int))) = [] := List.filter_eq_nil_iff.2 fun x hx => by have := hlo x hx; simp; omega
    have e : M.filter (fun m => decide (m ≤ ((1 : Nat) : Int))) = [1] := by
      have := upto_succ M 0 hM
      rw [h0, Int.zero_add, if_pos h1] at this
      exact this
    rw [e]
    exact ⟨⟨1, 999, f 1⟩, rfl, rfl, rfl, rfl⟩
  | k + 2, _, hk9 => by
    obtain ⟨y, hy, hto, hlet, hR⟩ := str_eq f M hM h1 hlo hf (k + 1) (by omega) (by omega)
    have hu := upto_succ M ((k + 1 : Nat) : Int) hM
    have hc : ((k + 1 : Nat) : Int) + 1 = ((k + 2 : Nat) : Int) := by omega
    have hstep : strR f (k + 2) = stepR (strR f (k + 1)) (((k + 1 : Nat) : Int) + 1) (f (((k + 1 : Nat) : Int) + 1)) := rfl
    rw [hc] at hu hstep
    have hL := of_last hy
    generalize hP : strP f (M.filter fun m => decide (m ≤ ((k + 1 : Nat) : Int))) = P at *
    have hcap : strR f (k + 1) = P.dropLast ++ [⟨y.frm, ((k + 1 : Nat) : Int), y.letter⟩] := by rw [hR, capS, hy]
    by_cases hm : ((k + 2 : Nat) : Int) ∈ M
    · rw [if_pos hm] at hu
      have hPP : strP f (M.filter fun m => decide (m ≤ ((k + 2 : Nat) : Int))) = stepP P ((k + 2 : Nat) : Int) (f ((k + 2 : Nat) : Int)) := by
        rw [hu, strP, List.foldl_append, ← hP]; rfl
      rw [hPP, hstep, hcap]
      by_cases he : y.letter = f ((k + 2 : Nat) : Int)
      · have hs : stepP P ((k + 2 : Nat) : Int) (f ((k + 2 : Nat) : Int)) = P := by
          rw [stepP, hy]; simp only
          rw [if_pos]
          rw [← he, ← hto]
        rw [hs]
        refine ⟨y, hy, hto, he, ?_⟩
        rw [stepR, last_snoc]; simp only
        rw [if_pos he, List.dropLast_concat, capS, hy]
      · have hs : stepP P ((k + 2 : Nat) : Int) (f ((k + 2 : Nat) : Int)) = P.dropLast ++ [⟨y.frm, ((k + 2 : Nat) : Int) - 1, y.letter⟩] ++ [⟨((k + 2 : Nat) : Int), 999, f ((k + 2 : Nat) : Int)⟩] := by
          rw [stepP, hy]; simp only
          rw [if_neg]
          intro e; rw [← e] at he; exact he rfl
        rw [hs]
        refine ⟨_, last_snoc _ _, rfl, rfl, ?_⟩
        rw [stepR, last_snoc]; simp only
        rw [if_neg he, capS, last_snoc]; simp only
        rw [List.dropLast_concat, show ((k + 2 : Nat) : Int) - 1 = ((k + 1 : Nat) : Int) by omega]
    · rw [if_neg hm, List.append_nil] at hu
      rw [hu, hP, hstep, hcap]
      have hfe : f ((k + 2 : Nat) : Int) = f ((k + 1 : Nat) : Int) := by
        have := hf (k + 1) (by omega) (by omega) (by rw [hc]; exact hm)
        rw [hc] at this; exact this
      refine ⟨y, hy, hto, by rw [hfe]; exact hlet, ?_⟩
      rw [stepR, last_snoc]; simp only
      rw [if_pos (by rw [hfe]; exact hlet), List.dropLast_concat, capS, hy]
theorem str_all {f : Int → Int} {M : List Int} (hM : M.Pairwise (· < ·)) (h1 : 1 ∈ M) (hlo : ∀ m ∈ M, 1 ≤ m) (hhi : ∀ m ∈ M, m ≤ 999) (hf : ∀ k : Nat, 1 ≤ k → k < 999 → ¬ ((k : Int) + 1) ∈ M → f ((k : Int) + 1) = f k) (k : Nat) (hk : (k : Int) = 999) : strP f M = strR f k := by
  obtain ⟨y, hy, hto, _, hR⟩ := str_eq f M hM h1 hlo hf k (by omega) (by omega)
  have e : M.filter (fun m => decide (m ≤ (k : Int))) = M := List.filter_eq_self.2 fun x hx => by rw [hk]; simpa using hhi x hx
  rw [e] at hy hR
  rw [hR, capS, hy]; simp only
  have hL := of_last hy
  rw [hk, ← hto]
  exact hL
end Go.Ab
namespace Go.Proofs
open Go Go.Ab
def rawM (l : List Note) : List Int := 1 :: l.flatMap fun x => [x.frm, x.to + 1]
def marksP (l : List Note) : List Int := (dedupI (isort (rawM l))).filter fun m => decide (m ≤ 999)
theorem marks_mem {l : List Note} {m : Int} : m ∈ marksP l ↔ (m = 1 ∨ ∃ x ∈ l, m = x.frm ∨ m = x.to + 1) ∧ m ≤ 999 := by
  simp only [marksP, List.mem_filter, dedupI_mem, isort_mem, rawM, List.mem_cons, List.mem_flatMap, List.not_mem_nil, or_false, decide_eq_true_eq]
theorem marks_lt (l : List Note) : (marksP l).Pairwise (· < ·) := (dedupI_lt _ (isort_sorted _)).filter _
theorem marks_len (l : List Note) : (marksP l).length ≤ 2 * l.length + 1 := by
  have h1 := List.length_filter_le (fun m : Int => decide (m ≤ 999)) (dedupI (isort (rawM l)))
  have h2 := dedupI_len (isort (rawM l))
  have h3 : (rawM l).length = 2 * l.length + 1 := by
    unfold rawM
    have : ∀ l : List Note, (l.flatMap fun x => [x.frm, x.to + 1]).length = 2 * l.length := fun l => by
      induction l with
      | nil => rfl
      | cons a r ih => rw [List.flatMap_cons, List.length_append, ih, List.length_cons, List.length_cons, List.length_cons, List.length_nil]; omega
    rw [List.length_cons, this]
  rw [isort_len, h3] at h2
  unfold marksP; omega
theorem nk3_of {n : Notes} (hok : allOk n) {x : Note} (hx : x ∈ n.notes) : 1 ≤ x.frm ∧ x.frm ≤ x.to ∧ x.to ≤ 999 := by
  obtain ⟨i, hi, e⟩ := List.mem_iff_getElem.1 hx
  have h := hok i x (by rw [List.getElem?_eq_getElem hi, e])
  simp only [nkA, nk3, Bool.and_eq_true, decide_eq_true_eq] at h
  omega
theorem frcL_same {s w : List Int} {m m' : Int} : ∀ (l : List Note), (∀ x ∈ l, frcB s w m x = frcB s w m' x) → frcL s w m l = frcL s w m' l
  | [], _ => rfl
  | x :: r, h => by
    have ih := frcL_same r fun y hy => h y (by simp [hy])
    simp only [frcL, ih, h x (by simp)]
def letF (n : Notes) (s : List Int) (d m : Int) : Int := letterK n.notes (frcL s [] m n.notes) d
theorem letF_same {n : Notes} {s : List Int} {d : Int} (k : Nat) (h9 : k < 999) (hk : ¬ ((k : Int) + 1) ∈ marksP n.notes) : letF n s d ((k : Int) + 1) = letF n s d k := by
  unfold letF
  rw [frcL_same (m := (k : Int) + 1) (m' := k) n.notes]
  intro x hx
  have h1 : (k : Int) + 1 ≠ x.frm := fun e => hk (marks_mem.2 ⟨.inr ⟨x, hx, .inl e⟩, by omega⟩)
  have h2 : (k : Int) + 1 ≠ x.to + 1 := fun e => hk (marks_mem.2 ⟨.inr ⟨x, hx, .inr e⟩, by omega⟩)
  unfold frcB
  have e1 : decide (x.frm ≤ (k : Int) + 1) = decide (x.frm ≤ (k : Int)) := by rw [decide_eq_decide]; omega
  have e2 : decide ((k : Int) + 1 ≤ x.to) = decide ((k : Int) ≤ x.to) := by rw [decide_eq_decide]; omega
  rw [e1, e2]
theorem runs_eq {n : Notes} (hok : allOk n) (s : List Int) (d : Int) (k : Nat) (hk : (k : Int) = 999) : strP (letF n s d) (marksP n.notes) = strR (letF n s d) k :=
  str_all (marks_lt _) (marks_mem.2 ⟨.inl rfl, by omega⟩) (fun m hm => by
    rcases (marks_mem.1 hm).1 with rfl | ⟨x, hx, rfl | rfl⟩
    · omega
    · exact (nk3_of hok hx).1
    · have := nk3_of hok hx; omega) (fun m hm => (marks_mem.1 hm).2) (fun k _ h9 h => letF_same k h9 h) k hk
theorem byF_let (n : Notes) (s : List Int) (m d : Int) : (byF n s [] m d n.notes.length).letter = letF n s d m := by
  rw [byF_at]
  unfold letF letterK
  rw [frcL_len]
  split
  · rfl
  · rename_i h
    have hl := byK_get (Nat.le_refl _) h
    rw [List.getElem?_eq_getElem hl]; rfl
end Go.Proofs
namespace Go.Proofs
open Go Go.Ab
theorem fidx_case {p : Int → Bool} {l : List Int} : (fidx p l = -1 ∧ l.filter (fun x => !p x) = l) ∨ ∃ i : Nat, fidx p l = (i : Int) ∧ ∃ h : i < l.length, p l[i] = true ∧ (l.take i).filter (fun x => !p x) = l.take i := by
  unfold fidx
  split
  · rename_i i h
    rw [List.findIdx?_eq_some_iff_getElem] at h
    obtain ⟨hlt, hp, hno⟩ := h
    refine .inr ⟨i, rfl, hlt, hp, List.filter_eq_self.2 fun x hx => ?_⟩
    obtain ⟨j, hj, e⟩ := List.mem_take_iff_getElem.1 hx
    have := hno j (by omega)
    rw [e] at this; simpa using this
  · rename_i h
    rw [List.findIdx?_eq_none_iff] at h
    exact .inl ⟨rfl, List.filter_eq_self.2 fun x hx => by simp [h x hx]⟩
theorem ims_take (X : List (List IC)) (m : Nat) : (ims X).take m = ims (X.take m) := by simp [ims, List.map_take]
theorem filter_step {q : Int → Bool} {l : List Int} {j : Nat} (h : j < l.length) : (l.take (j + 1)).filter q = (l.take j).filter q ++ (if q l[j] = true then [l[j]] else []) := by
  rw [List.take_succ_eq_append_getElem h, List.filter_append]
  congr 1
  by_cases e : q l[j] = true <;> simp [e]
set_option linter.unusedSimpArgs false
variable {G : Nat → Option (List IC)}
theorem marks1_c (v : Int) (objs : List DObj) : DCall Tryd.prog G 106 [iv v] objs (fun rr objs' => rr = bv (decide (999 < v)) ∧ objs' = objs) := by
  refine DCall.frame ?_ (by simp) (by simp) objs
  refine DCall_intro Tryd.func106 rfl Tryd.ntmps106 (by simp) rfl ?_
  try simp only [iv]
  have hs : True := trivial
  repeat' first | (with_reducible first | refine q01 ?_ | refine q11 ?_ | refine q17 ?_) | (with_reducible refine At.fn_ret (by simp -dsimp [hs]; exact rfl) ?_) | (with_reducible refine DT_regionE [0, 2] ?_; simp -dsimp [hs])
  all_goals try simp -dsimp [hs]
  all_goals try clear hs
set_option maxHeartbeats 2000000 in
theorem delFunc_c (l : List Int) (m g : Nat) (hm : m ≤ l.length) (hl : l.length < 1000) : DCall Tryd.prog G 105 [.one (.vec 0 g 0 m), .one (.im (.fn (.func 106) []))] [.vec 1 (ims (l.map encI)) g false] (fun d o => ∃ S : List Int, (S.length = l.length ∧ S.take ((l.take m).filter fun x => decide (x ≤ 999)).length = (l.take m).filter fun x => decide (x ≤ 999)) ∧ d = .one (.vec 0 g 0 ((l.take m).filter fun x => decide (x ≤ 999)).length) ∧ o = [.vec 1 (ims (S.map encI)) g false]) := by
  refine DCall.drop ?_
  refine DCall_intro Tryd.func105 rfl Tryd.ntmps105 (by simp) rfl ?_
  have hq : (fun x : Int => !decide (999 < x)) = fun x => decide (x ≤ 999) := funext fun x => by rw [← decide_not, decide_eq_decide]; omega
  have htl : (l.take m).length = m := by simp; omega
  have c1 : ∀ objs, DCall Tryd.prog G 115 [.one (.im (.sl ((l.take m).map encI))), .one (.im (.fn (.func 106) []))] objs (fun d o => d = iv (fidx (fun x => decide (999 < x)) (l.take m)) ∧ o = objs) := fun objs =>
    DCall.fnArg2 (indexFunc_int (G := G) (l.take m) (fun x => decide (999 < x)) 106 [] objs (by simp) (fun x _ => marks1_c x objs) (by simp; omega))
  have hcase := fidx_case (p := fun x => decide (999 < x)) (l := l.take m)
  rw [hq] at hcase
  generalize fidx (fun x => decide (999 < x)) (l.take m) = z at *
  rcases hcase with ⟨rfl, hall⟩ | ⟨i, rfl, hi, hpi, hfi⟩
  · simp only [List.map_take] at c1
    have hs : True := trivial
    repeat' first | (with_reducible first | refine q01 ?_ | refine q02 ?_ | refine q11 ?_ | refine q17 ?_) | (with_reducible refine At.fn_ret (by simp -dsimp [hm, hs]; exact rfl) ?_) | (refine CallE.thaw c1 ?_ ?_ ?_; (focus (simp [hm, ims_take]; done)); (focus (simp; done)); try simp -dsimp [hm, hs]) | (with_reducible refine DT_regionE [0, 1, 4, 5, 6, 7, 12, 19, 29] ?_; simp -dsimp [hm, hs]) | (refine DT_cond rfl (fun h => ?_) (fun h => ?_) <;> (try simp only [nrm] at h) <;> (try exact Bool.noConfusion h))
    all_goals try simp -dsimp [hm, hs]
    all_goals try clear hs
    exact ⟨l, ⟨rfl, by rw [hall, htl]⟩, by rw [hall, htl], rfl⟩
  · simp only [List.map_take] at c1
    have him : i < m := by omega
    have hwi : IntKind.i64.wrap ((i : Int) + 1) = ((i + 1 : Nat) : Int) := i64w (by omega) (by omega)
    have hL0 : l.take i = ((l.take m).take (i + 1)).filter fun x => decide (x ≤ 999) := by
      rw [filter_step hi, hfi, if_neg (by simp at hpi ⊢; omega), List.append_nil, List.take_take, Nat.min_eq_left (by omega)]
    have hs : True := trivial
    repeat' first | (with_reducible first | refine q01 ?_ | refine q11 ?_ | refine q12 ?_ | refine q14 ?_) | (refine CallE.thaw c1 ?_ ?_ ?_; (focus (simp [hm, ims_take]; done)); (focus (simp; done)); try simp -dsimp [hm, hwi, hs]) | (with_reducible refine DT_regionE [0, 1, 4, 5, 6, 7, 12, 19, 29] ?_; simp -dsimp [hm, hwi, hs]) | (refine DT_cond rfl (fun h => ?_) (fun h => ?_) <;> (try simp only [nrm] at h) <;> (try exact Bool.noConfusion h))
    all_goals try simp -dsimp [hm, hwi, hs]
    all_goals try clear hs
    refine DT_loop (ι := { p : Nat × Nat × List Int // p.1 ≤ m ∧ p.2.1 + 1 ≤ p.1 ∧ p.2.2.length = l.length ∧ p.2.2.take p.2.1 = ((l.take m).take p.1).filter (fun x => decide (x ≤ 999)) ∧ p.2.2.drop p.1 = l.drop p.1 }) (fun p => ⟨42, [(0, .one (.vec 0 g 0 m)), (1, .one (.im (.fn (.func 106) []))), (5, iv (p.1.2.1 : Int)), (6, iv (p.1.1 : Int))], [.vec 1 (ims (p.1.2.2.map encI)) g false]⟩) (fun p => m - p.1.1) ⟨(i + 1, i, l), by simp only; omega, by simp only; omega, rfl, hL0, rfl⟩ (Weak.of_drop [0,1,5,6] 1 (by simp) (by simp) (by simp)) ?_
    clear c1 hL0 hfi hpi
    rintro ⟨⟨j, w, S⟩, hj, hwj, hSl, hSt, hSd⟩
    simp only at hj hwj hSl hSt hSd
    simp only [iv]
    by_cases hlt : j < m
    · have hw : IntKind.i64.wrap ((j : Int) + 1) = ((j + 1 : Nat) : Int) := i64w (by omega) (by omega)
      have hww : IntKind.i64.wrap ((w : Int) + 1) = ((w + 1 : Nat) : Int) := i64w (by omega) (by omega)
      have hjS : j < S.length := by omega
      have hjl : j < l.length := by omega
      have hwm : w < m := by omega
      have hwS : w < S.length := by omega
      have hfs := filter_step (q := fun x => decide (x ≤ 999)) (show j < (l.take m).length by omega)
      rw [← hSt, List.getElem_take] at hfs
      have e1 : S[j]? = l[j]? := by
        have := congrArg (fun L : List Int => L[0]?) hSd
        simpa only [List.getElem?_drop, Nat.add_zero] using this
      rw [List.getElem?_eq_getElem hjl] at e1
      have e2 : S[j] = l[j] := (List.getElem?_eq_some_iff.1 e1).2
      have hdr : S.drop (j + 1) = l.drop (j + 1) := by
        have := congrArg (List.drop 1) hSd
        rw [List.drop_drop, List.drop_drop] at this; exact this
      have hset := fun v : Int => set_take (v := v) hwS
      have hdset : ∀ v : Int, (S.set w v).drop (j + 1) = l.drop (j + 1) := fun v => by
        rw [List.drop_set_of_lt (by omega)]; exact hdr
      generalize l[j] = v at *
      have c2 := marks1_c (G := G) v
      by_cases hv : 999 < v
      · rw [decide_eq_true hv] at c2
        rw [if_neg (by simp; omega), List.append_nil] at hfs
        have hs : True := trivial
        repeat' first | (with_reducible first | refine q01 ?_ | refine q04 ?_ | refine q11 ?_ | refine q12 ?_ | refine q14 ?_) | (refine CallE.pure (c2) ?_; try simp -dsimp [hlt, hw, hjS, e1, e2, hs]) | (with_reducible refine DT_regionE [0, 1, 4, 5, 6, 7, 12, 19, 29] ?_; simp -dsimp [hlt, hw, hjS, e1, e2, hs]) | (refine DT_cond rfl (fun h => ?_) (fun h => ?_) <;> (try simp only [nrm] at h) <;> (try exact Bool.noConfusion h))
        all_goals try simp -dsimp [hlt, hw, hjS, e1, e2, hs]
        all_goals try clear hs
        all_goals exact At.round ⟨(j + 1, w, S), by simp only; omega, by simp only; omega, hSl, hfs.symm, hdr⟩ (by simp only; omega) (Weak.of_keep [0,1,5,6] (by simp))
      · rw [decide_eq_false hv] at c2
        rw [if_pos (by simp; omega), ← hset v] at hfs
        have hs : True := trivial
        repeat' first | (with_reducible first | refine q01 ?_ | refine q04 ?_ | refine q11 ?_ | refine q12 ?_ | refine q14 ?_) | (refine CallE.pure (c2) ?_; try simp -dsimp [hlt, hw, hww, hjS, e1, e2, hwm, hwS, hs]) | (with_reducible refine DT_regionE [0, 1, 4, 5, 6, 7, 12, 19, 29] ?_; simp -dsimp [hlt, hw, hww, hjS, e1, e2, hwm, hwS, hs]) | (refine DT_cond rfl (fun h => ?_) (fun h => ?_) <;> (try simp only [nrm] at h) <;> (try exact Bool.noConfusion h))
        all_goals try simp -dsimp [hlt, hw, hww, hjS, e1, e2, hwm, hwS, hs]
        all_goals try clear hs
        all_goals exact At.round ⟨(j + 1, w + 1, S.set w v), by simp only; omega, by simp only; omega, by simpa using hSl, hfs.symm, hdset v⟩ (by simp only; omega) (Weak.of_keep [0,1,5,6] (by simp))
    · obtain rfl : j = m := by omega
      rw [List.take_of_length_le (by omega : (l.take j).length ≤ j)] at hSt
      have hw0 : w ≤ j := by omega
      have hwd : w = ((l.take j).filter fun x => decide (x ≤ 999)).length := by rw [← hSt]; simp; omega
      have hs : True := trivial
      repeat' first | (with_reducible first | refine q01 ?_ | refine q03 ?_ | refine q06 ?_ | refine q11 ?_ | refine q16 ?_ | refine q17 ?_) | (with_reducible refine At.fn_ret (by simp -dsimp [hlt, hw0, hSl, hm, hs]; exact rfl) ?_) | (with_reducible refine DT_regionE [0, 1, 4, 5, 6, 7, 12, 19, 29] ?_; simp -dsimp [hlt, hw0, hSl, hm, hs]) | (refine DT_cond rfl (fun h => ?_) (fun h => ?_) <;> (try simp only [nrm] at h) <;> (try exact Bool.noConfusion h))
      all_goals try simp -dsimp [hlt, hw0, hSl, hm, hs]
      all_goals try clear hs
      all_goals exact ⟨clrI S w (j - w), ⟨by rw [clrI_len (by omega)]; exact hSl, by rw [← hwd, ← hSt]; exact List.take_left' (by simp; omega)⟩, by rw [hwd], rfl⟩
end Go.Proofs
namespace Go.Proofs
open Go Go.Ab
set_option linter.unusedSimpArgs false
variable {G : Nat → Option (List IC)}
theorem rawM_take {l : List Note} {k : Nat} (h : k < l.length) : rawM (l.take (k + 1)) = rawM (l.take k) ++ [l[k].frm, l[k].to + 1] := by
  unfold rawM
  rw [List.take_succ_eq_append_getElem h, List.flatMap_append]; simp
theorem rawM_len (l : List Note) : (rawM l).length = 2 * l.length + 1 := by
  unfold rawM
  have : ∀ l : List Note, (l.flatMap fun x => [x.frm, x.to + 1]).length = 2 * l.length := fun l => by
    induction l with
    | nil => rfl
    | cons a r ih => rw [List.flatMap_cons, List.length_append, ih, List.length_cons, List.length_cons, List.length_cons, List.length_nil]; omega
  rw [List.length_cons, this]
set_option maxHeartbeats 2000000 in
theorem marks_c (n : Notes) (hS : SortOk G) (hl : n.notes.length < 100) (hto : ∀ x ∈ n.notes, 1 ≤ x.to ∧ x.to ≤ 999) (objs : List DObj) : DCall Tryd.prog G 63 [.one (.im (fileI n))] objs (fun rr objs' => rr = isv (marksP n.notes) ∧ objs' = objs) := by
  refine DCall.frame ?_ (by simp) (by simp) objs
  refine DCall_intro Tryd.func63 rfl Tryd.ntmps63 (by simp) rfl ?_
  try simp only [iv]
  simp only [fileI]
  have hs : True := trivial
  repeat' first | (with_reducible first | refine q01 ?_ | refine q11 ?_ | refine q12 ?_) | (with_reducible refine DT_regionE [0, 2, 3, 5, 11, 12, 13, 14] ?_; simp -dsimp [hs])
  all_goals try simp -dsimp [hs]
  all_goals try clear hs
  refine DT_loop (ι := { p : Nat × Nat // p.1 ≤ n.notes.length }) (fun p => ⟨32, [(3, .one (.vec 1 p.1.2 0 (rawM (n.notes.take p.1.1)).length)), (11, .one (.im (.sl (n.notes.map encNote)))), (12, iv (n.notes.length : Int)), (13, iv (p.1.1 : Int))], [.vec 1 [] 0 true, .vec 1 (ims ((rawM (n.notes.take p.1.1)).map encI)) p.1.2 false]⟩) (fun p => n.notes.length - p.1.1) ⟨(0, 0), by simp⟩ (Weak.of_keep [3,11,12,13] (by simp [rawM])) ?_
  rintro ⟨⟨k, g⟩, hk⟩
  simp only at hk
  simp only [iv]
  have hrl := rawM_len (n.notes.take k)
  rw [List.length_take] at hrl
  by_cases hlt : k < n.notes.length
  · have hw : IntKind.i64.wrap ((k : Int) + 1) = ((k + 1 : Nat) : Int) := i64w (by omega) (by omega)
    have hst := rawM_take hlt
    have hxt := hto n.notes[k] (List.getElem_mem hlt)
    generalize hx : n.notes[k] = x at *
    have hwt : IntKind.i64.wrap (x.to + 1) = x.to + 1 := i64w (by omega) (by omega)
    generalize rawM (n.notes.take k) = L at *
    have hs : True := trivial
    repeat' first | (with_reducible first | refine q01 ?_ | refine q04 ?_ | refine q11 ?_ | refine q12 ?_ | refine q14 ?_ | refine And.intro (by omega) ?_) | (with_reducible refine DT_regionE [0, 2, 3, 5, 11, 12, 13, 14] ?_; simp -dsimp [hx, hlt, hw, hwt, hs]) | (refine DT_cond rfl (fun h => ?_) (fun h => ?_) <;> (try simp only [nrm] at h) <;> (try exact Bool.noConfusion h))
    all_goals try simp -dsimp [hx, hlt, hw, hwt, hs]
    all_goals try clear hs
    all_goals exact At.round ⟨(k + 1, g + 1), by simp only; omega⟩ (by simp only; omega) (Weak.of_drop [3,11,12,13] 2 (by simp) (by simp) (by simp [hst]))
  · obtain rfl : k = n.notes.length := by omega
    rw [List.take_length] at hrl ⊢
    have hE : marksP n.notes = (dedupI (isort (rawM n.notes))).filter fun m => decide (m ≤ 999) := rfl
    have c1 := hS (rawM n.notes) g 1 false (.inl rfl) (by omega)
    have hil := isort_len (rawM n.notes)
    have c2 := compact_c (G := G) (isort (rawM n.notes)) g (by omega)
    have hdl := dedupI_len (isort (rawM n.notes))
    rw [hil] at c2
    have hs : True := trivial
    repeat' first | (with_reducible first | refine q01 ?_ | refine q03 ?_ | refine q06 ?_ | refine q11 ?_ | refine q16 ?_ | refine q17 ?_) | (with_reducible refine At.fn_ret (by simp -dsimp [hlt, hs]; exact rfl) ?_) | (refine CallE.embed [1] (c1) ?_ ?_ ?_ ?_ ?_ ?_; (focus (simp [emb]; done)); (focus (simp; done)); (focus (simp; done)); (focus (simp; done)); (focus (refine emb_all ?_; simp [emb, embAll]; done)); try simp -dsimp [mergeO, emb, hlt, hs]) | (refine CallE.embed_ex [1] (c2) ?_ ?_ ?_ ?_ ?_ ?_; (focus (simp [emb]; done)); (focus (simp; done)); (focus (simp; done)); (focus (simp; done)); (focus (refine emb_all ?_; simp [emb, embAll]; done)); intro mma hmma; try simp -dsimp [mergeO, emb, hlt, hs]) | (refine CallE.embed_ex [1] (delFunc_c (G := G) mma (dedupI (isort (rawM n.notes))).length g (by omega) (by omega)) ?_ ?_ ?_ ?_ ?_ ?_; (focus (simp [emb]; done)); (focus (simp; done)); (focus (simp; done)); (focus (simp; done)); (focus (refine emb_all ?_; simp [emb, embAll]; done)); intro mm hmm; try simp -dsimp [mergeO, emb, hlt, hs]) | (with_reducible refine DT_regionE [0, 2, 3, 5, 11, 12, 13, 14] ?_; simp -dsimp [hlt, hs]) | (refine DT_cond rfl (fun h => ?_) (fun h => ?_) <;> (try simp only [nrm] at h) <;> (try exact Bool.noConfusion h))
    all_goals try simp -dsimp [hlt, hs]
    all_goals try clear hs
    obtain ⟨ha1, ha2⟩ := hmma
    obtain ⟨hb1, hb2⟩ := hmm
    rw [ha2, ← hE] at hb2 ⊢
    have hml : (marksP n.notes).length ≤ mm.length := by rw [← hb2]; simp; omega
    have htk : (ims (mm.map encI)).take (marksP n.notes).length = ims ((marksP n.notes).map encI) := by rw [ims_take, ← List.map_take, hb2]
    simp [hml, htk]
end Go.Proofs
namespace Go.Ab
open Go
theorem encStr_len (x : Str) : (encStr x).length = 3 := rfl
@[simp] theorem ims_getS (L : List Str) (k : Nat) : (ims (L.map encStr))[k]? = (L[k]?).map fun y => [DC.im (.raw (.int .i64 y.frm)), DC.im (.raw (.int .i64 y.to)), DC.im (.raw (.int .i64 y.letter))] := by
  simp only [ims, List.getElem?_map, Option.map_map]; rfl
@[simp] theorem ims_getSl (L : List Str) (k : Nat) (h : k < (ims (L.map encStr)).length) : (ims (L.map encStr))[k] = [DC.im (.raw (.int .i64 (L[k]'(by simpa [ims_length] using h)).frm)), DC.im (.raw (.int .i64 (L[k]'(by simpa [ims_length] using h)).to)), DC.im (.raw (.int .i64 (L[k]'(by simpa [ims_length] using h)).letter))] := by
  simp [ims]
@[simp] theorem ims_setS (L : List Str) (k : Nat) (a b c : Int) : (ims (L.map encStr)).set k [DC.im (.raw (.int .i64 a)), DC.im (.raw (.int .i64 b)), DC.im (.raw (.int .i64 c))] = ims ((L.set k ⟨a, b, c⟩).map encStr) := by
  simp only [ims, List.map_set, encStr, rI, List.map_cons, List.map_nil]
theorem set_last {L : List Str} {y z : Str} (h : L.getLast? = some y) : L.set (L.length - 1) z = L.dropLast ++ [z] := by
  have e := of_last h
  have hl : L.length - 1 = L.dropLast.length := by simp
  rw [hl]
  conv => lhs; rw [e]
  rw [List.dropLast_concat, List.set_append_right _ _ (Nat.le_refl _), Nat.sub_self]; rfl
theorem last_get {L : List Str} {y : Str} (h : L.getLast? = some y) : 0 < L.length ∧ L[L.length - 1]? = some y := by
  rw [List.getLast?_eq_getElem?] at h
  refine ⟨?_, h⟩
  have := lt_of_getElem? h; omega
end Go.Ab
namespace Go.Proofs
open Go Go.Ab
set_option linter.unusedSimpArgs false
variable {G : Nat → Option (List IC)}
def strT (f : Int → Int) (M : List Int) (k : Nat) : List Str := strP f (M.take k)
theorem strT_succ {f : Int → Int} {M : List Int} {k : Nat} (h : k < M.length) : strT f M (k + 1) = stepP (strT f M k) M[k] (f M[k]) := by
  unfold strT strP
  rw [List.take_succ_eq_append_getElem h, List.foldl_append]; rfl
theorem stepP_len (L : List Str) (m c : Int) : (stepP L m c).length ≤ L.length + 1 := by
  unfold stepP
  split
  · simp
  · rename_i y h
    have hp := (last_get h).1
    split
    · omega
    · simp; omega
theorem strT_len (f : Int → Int) (M : List Int) : ∀ k, (strT f M k).length ≤ k
  | 0 => by simp [strT, strP]
  | k + 1 => by
    have ih := strT_len f M k
    by_cases h : k < M.length
    · rw [strT_succ h]
      have := stepP_len (strT f M k) M[k] (f M[k]); omega
    · have : strT f M (k + 1) = strT f M k := by unfold strT; rw [List.take_of_length_le (by omega), List.take_of_length_le (by omega)]
      rw [this]; omega
set_option maxHeartbeats 4000000 in
theorem nStretches_c (n : Notes) (s : List Int) (d : Int) (hG : sheetG G) (hN : noteG G) (hS : SortOk G) (hs : NSm n) (hsl : s.length < 1000) (objs : List DObj) : DCall Tryd.prog G 28 [notesv n, isv s, iv d] objs (fun rr objs' => rr = .tup [strv (if drawnE n s 1 d = 0 then strP (letF n s d) (marksP n.notes) else []), iv (drawnE n s 1 d)] ∧ objs' = objs) := by
  refine DCall.frame ?_ (by simp) (by simp) objs
  refine DCall_intro Tryd.func28 rfl Tryd.ntmps28 (by simp) rfl ?_
  try simp only [notesv, isv, iv]
  have c1 := drawn_c n s 1 d hG hN hS hs hsl
  by_cases h0 : drawnE n s 1 d = 0
  · rw [h0, show drawnR n s 1 d = .one (.im (fileI n)) by unfold drawnR; rw [if_pos h0]] at c1
    have ha : askedE n s 1 = 0 := Classical.byContradiction fun h => h (by unfold drawnE at h0; rw [if_pos h] at h0; exact h0)
    have hok := (notes_ok (asked_ok ha).1).2.2.1
    have hn16 := hs.2.1
    have c2 := marks_c n hS (by omega) (fun x hx => by have := nk3_of hok hx; omega)
    have c3 := fun m => force_c (G := G) n s [] m
    have hml := marks_len n.notes
    have hmm0 : ∀ m ∈ marksP n.notes, 1 ≤ m ∧ m ≤ 999 := fun m hm => ⟨by
      rcases (marks_mem.1 hm).1 with rfl | ⟨x, hx, rfl | rfl⟩
      · omega
      · exact (nk3_of hok hx).1
      · have := nk3_of hok hx; omega, (marks_mem.1 hm).2⟩
    rw [if_pos h0]
    simp only [fileI] at c1 c2
    simp only [frcObjs, frcCaps, fileI, iv, isv, bv, rI, List.map_cons, List.map_nil, encMB] at c3
    have hs : True := trivial
    repeat' first | (with_reducible first | refine q01 ?_ | refine q11 ?_ | refine q12 ?_ | refine q14 ?_) | (refine CallE.pure (c1) ?_; try simp -dsimp [hs]) | (refine CallE.pure (c2) ?_; try simp -dsimp [hs]) | (with_reducible refine DT_regionE [0, 1, 2, 3, 6, 7, 8, 9, 10, 12, 13, 14, 23, 26, 27, 28, 29, 46, 61] ?_; simp -dsimp [hs]) | (refine DT_cond rfl (fun h => ?_) (fun h => ?_) <;> (try simp only [nrm] at h) <;> (try exact Bool.noConfusion h))
    all_goals try simp -dsimp [hs]
    all_goals try clear hs
    have hE : strP (letF n s d) (marksP n.notes) = strT (letF n s d) (marksP n.notes) (marksP n.notes).length := by unfold strT; rw [List.take_length]
    rw [hE]
    generalize marksP n.notes = M at *
    refine DT_loop (ι := { p : Nat × Nat × Bool // p.1 ≤ M.length }) (fun p => ⟨74, [(1, isv s), (2, iv d), (8, .one (.im (.ip [.sl (n.reg.map encIssue), .sl (n.notes.map encNote), .sl ((nums n.reg).map encI), .sl ((isort (openL n.notes)).map encI)]))), (10, .one (.vec 2 p.1.2.1 0 (strT (letF n s d) M p.1.1).length)), (26, isv M), (27, iv (M.length : Int)), (28, iv (p.1.1 : Int))], [.row ((encNotes n).map .im), .vec 3 [] 0 true, .vec 3 (ims ((strT (letF n s d) M p.1.1).map encStr)) p.1.2.1 p.1.2.2]⟩) (fun p => M.length - p.1.1) ⟨(0, 0, true), by simp⟩ (Weak.of_keep [1,2,8,10,26,27,28] (by simp [strT, strP])) ?_
    rintro ⟨⟨k, g, nl⟩, hk⟩
    simp only at hk
    simp only [iv, isv]
    by_cases hlt : k < M.length
    · have hw : IntKind.i64.wrap ((k : Int) + 1) = ((k + 1 : Nat) : Int) := i64w (by omega) (by omega)
      have hst := strT_succ (f := letF n s d) hlt
      have hLl := strT_len (letF n s d) M k
      have hmk := hmm0 M[k] (List.getElem_mem hlt)
      generalize hx : M[k] = m at *
      have hwm : IntKind.i64.wrap (m - 1) = m - 1 := i64w (by omega) (by omega)
      have c4 := c3 m
      have c5 := by_c (G := G) n s [] m d (by omega) hsl (by simp) [] (ConsM.nil _ _ _ _)
      have hlf := byF_let n s m d
      simp only [frcObjs, frcCaps, fileI, iv, isv, bv, rI, List.map_cons, List.map_nil, encMB, notev, encNote, rB] at c5
      generalize letF n s d m = c at *
      generalize strT (letF n s d) M k = L at *
      cases hlast : L.getLast? with
      | none =>
        obtain rfl : L = [] := List.getLast?_eq_none_iff.1 hlast
        have hw1 : IntKind.i64.wrap (-1) = -1 := i64w (by omega) (by omega)
        simp only [stepP, List.getLast?_nil] at hst
        have hs : True := trivial
        repeat' first | (with_reducible first | refine q01 ?_ | refine q04 ?_ | refine q11 ?_ | refine q12 ?_ | refine q14 ?_) | (refine CallE.embed [] (c4) ?_ ?_ ?_ ?_ ?_ ?_; (focus (simp [emb]; done)); (focus (simp; done)); (focus (simp; done)); (focus (simp; done)); (focus (refine emb_all ?_; simp [emb, embAll]; done)); try simp -dsimp [mergeO, emb, hx, hlt, hw, hlf, hw1, hs]) | (refine CallE.embed_ex [3,4,5,6,7,8,9] (c5) ?_ ?_ ?_ ?_ ?_ ?_; (focus (simp [emb]; done)); (focus (simp; done)); (focus (simp; done)); (focus (simp; done)); (focus (refine emb_all ?_; simp [emb, embAll]; done)); intro mm hmm; try simp -dsimp [mergeO, emb, hx, hlt, hw, hlf, hw1, hs]) | (with_reducible refine DT_regionE [0, 1, 2, 3, 6, 7, 8, 9, 10, 12, 13, 14, 23, 26, 27, 28, 29, 46, 61] ?_; simp -dsimp [hx, hlt, hw, hlf, hw1, hs]) | (refine DT_cond rfl (fun h => ?_) (fun h => ?_) <;> (try simp only [nrm] at h) <;> (try exact Bool.noConfusion h))
        all_goals try simp -dsimp [hx, hlt, hw, hlf, hw1, hs]
        all_goals try clear hs
        exact At.round ⟨(k + 1, g + 1, false), by simp only; omega⟩ (by simp only; omega) (Weak.of_drop [1,2,8,10,26,27,28] 3 (by simp) (by simp) (by simp [hst]))
      | some y =>
        obtain ⟨hp, hlg⟩ := last_get hlast
        simp only [stepP, hlast] at hst
        have hwl : IntKind.i64.wrap ((L.length : Int) - 1) = ((L.length - 1 : Nat) : Int) := by rw [i64w (by omega) (by omega)]; omega
        have hl1 : L.length - 1 < L.length := by omega
        have hLy : L[L.length - 1] = y := (List.getElem?_eq_some_iff.1 hlg).2
        have hsl2 := set_last (z := ⟨y.frm, m - 1, y.letter⟩) hlast
        have hdl : L.dropLast.length = L.length - 1 := by simp
        have htk : List.take L.length (ims ((L.map encStr).set (L.length - 1) (encStr ⟨y.frm, m - 1, y.letter⟩))) = ims (L.map encStr).dropLast ++ [(encStr ⟨y.frm, m - 1, y.letter⟩).map .im] := by
          have := congrArg (List.map encStr) hsl2
          rw [List.map_set, List.map_append, List.map_dropLast] at this
          rw [List.take_of_length_le (by simp [ims_length]), this, ims_append]; rfl
        by_cases he : (⟨y.frm, 999, c⟩ : Str) = y
        · rw [if_pos he] at hst
          have hs : True := trivial
          repeat' first | (with_reducible first | refine q01 ?_ | refine q03 ?_ | refine q04 ?_ | refine q06 ?_ | refine q11 ?_ | refine q12 ?_ | refine q14 ?_ | refine q16 ?_ | refine And.intro (by omega) ?_) | (refine CallE.embed [] (c4) ?_ ?_ ?_ ?_ ?_ ?_; (focus (simp [emb]; done)); (focus (simp; done)); (focus (simp; done)); (focus (simp; done)); (focus (refine emb_all ?_; simp [emb, embAll]; done)); try simp -dsimp [mergeO, emb, hx, hlt, hw, hlf, hwl, hlg, hl1, hLy, hs]) | (refine CallE.embed_ex [3,4,5,6,7,8,9] (c5) ?_ ?_ ?_ ?_ ?_ ?_; (focus (simp [emb]; done)); (focus (simp; done)); (focus (simp; done)); (focus (simp; done)); (focus (refine emb_all ?_; simp [emb, embAll]; done)); intro mm hmm; try simp -dsimp [mergeO, emb, hx, hlt, hw, hlf, hwl, hlg, hl1, hLy, hs]) | (refine DT_regionM (id := 11) (nt := 74) 15 [0, 1, 2, 3, 6, 7, 8, 9, 10, 12, 13, 14, 23, 26, 27, 28, 29, 46, 61] mixed rfl (by kernel_rfl) ?_; simp -dsimp [hx, hlt, hw, hlf, hwl, hlg, hl1, hLy, hs]) | (with_reducible refine DT_regionE [0, 1, 2, 3, 6, 7, 8, 9, 10, 12, 13, 14, 23, 26, 27, 28, 29, 46, 61] ?_; simp -dsimp [hx, hlt, hw, hlf, hwl, hlg, hl1, hLy, hs]) | (refine DT_cond rfl (fun h => ?_) (fun h => ?_) <;> (try simp only [nrm] at h) <;> (try exact Bool.noConfusion h))
          all_goals try simp -dsimp [hx, hlt, hw, hlf, hwl, hlg, hl1, hLy, hs]
          all_goals try clear hs
          · exact At.round ⟨(k + 1, g, nl), by simp only; omega⟩ (by simp only; omega) (Weak.of_drop [1,2,8,10,26,27,28] 3 (by simp) (by simp) (by simp [hst]))
          · have h1 : 999 = y.to := congrArg Str.to he
            have h2 : c = y.letter := congrArg Str.letter he
            have h3 : ¬ 999 = y.to ∨ ¬ c = y.letter := by assumption
            omega
        · rw [if_neg he] at hst
          have hs : True := trivial
          repeat' first | (with_reducible first | refine q01 ?_ | refine q03 ?_ | refine q04 ?_ | refine q06 ?_ | refine q11 ?_ | refine q12 ?_ | refine q14 ?_ | refine q16 ?_ | refine And.intro (by omega) ?_) | (refine CallE.embed [] (c4) ?_ ?_ ?_ ?_ ?_ ?_; (focus (simp [emb]; done)); (focus (simp; done)); (focus (simp; done)); (focus (simp; done)); (focus (refine emb_all ?_; simp [emb, embAll]; done)); try simp -dsimp [mergeO, emb, hx, hlt, hw, hlf, hwl, hlg, hl1, hLy, hwm, hs]) | (refine CallE.embed_ex [3,4,5,6,7,8,9] (c5) ?_ ?_ ?_ ?_ ?_ ?_; (focus (simp [emb]; done)); (focus (simp; done)); (focus (simp; done)); (focus (simp; done)); (focus (refine emb_all ?_; simp [emb, embAll]; done)); intro mm hmm; try simp -dsimp [mergeO, emb, hx, hlt, hw, hlf, hwl, hlg, hl1, hLy, hwm, hs]) | (refine DT_regionM (id := 11) (nt := 74) 15 [0, 1, 2, 3, 6, 7, 8, 9, 10, 12, 13, 14, 23, 26, 27, 28, 29, 46, 61] mixed rfl (by kernel_rfl) ?_; simp -dsimp [hx, hlt, hw, hlf, hwl, hlg, hl1, hLy, hwm, hs]) | (with_reducible refine DT_regionE [0, 1, 2, 3, 6, 7, 8, 9, 10, 12, 13, 14, 23, 26, 27, 28, 29, 46, 61] ?_; simp -dsimp [hx, hlt, hw, hlf, hwl, hlg, hl1, hLy, hwm, hs]) | (refine DT_cond rfl (fun h => ?_) (fun h => ?_) <;> (try simp only [nrm] at h) <;> (try exact Bool.noConfusion h))
          all_goals try simp -dsimp [hx, hlt, hw, hlf, hwl, hlg, hl1, hLy, hwm, hs]
          all_goals try clear hs
          · have h3 : 999 = y.to ∧ c = y.letter := by assumption
            exact absurd (show (⟨y.frm, 999, c⟩ : Str) = y by rw [h3.1, h3.2]) he
          · exact At.round ⟨(k + 1, g + 1, false), by simp only; omega⟩ (by simp only; omega) (Weak.of_drop [1,2,8,10,26,27,28] 3 (by simp) (by simp) (by simp [hst, hsl2, hdl]; simp only [encStr, rI] at htk; exact ⟨by omega, by rw [htk]; simp⟩))
    · obtain rfl : k = M.length := by omega
      have hs : True := trivial
      repeat' first | (with_reducible first | refine q01 ?_ | refine q03 ?_ | refine q06 ?_ | refine q11 ?_ | refine q16 ?_ | refine q17 ?_) | (with_reducible refine At.fn_ret (by simp -dsimp [hlt, hs]; exact rfl) ?_) | (with_reducible refine DT_regionE [0, 1, 2, 3, 6, 7, 8, 9, 10, 12, 13, 14, 23, 26, 27, 28, 29, 46, 61] ?_; simp -dsimp [hlt, hs]) | (refine DT_cond rfl (fun h => ?_) (fun h => ?_) <;> (try simp only [nrm] at h) <;> (try exact Bool.noConfusion h))
      all_goals try simp -dsimp [hlt, hs]
      all_goals try clear hs
      all_goals simp [h0]
  · rw [show drawnR n s 1 d = .one (.im (.raw (.pointer none))) by unfold drawnR; rw [if_neg h0]] at c1
    have hs : True := trivial
    repeat' first | (with_reducible first | refine q01 ?_ | refine q02 ?_ | refine q11 ?_ | refine q17 ?_) | (with_reducible refine At.fn_ret (by simp -dsimp [h0, hs]; exact rfl) ?_) | (refine CallE.pure (c1) ?_; try simp -dsimp [h0, hs]) | (with_reducible refine DT_regionE [0, 1, 2, 3, 6, 7, 8, 9, 10, 12, 13, 14, 23, 26, 27, 28, 29, 46, 61] ?_; simp -dsimp [h0, hs]) | (refine DT_cond rfl (fun h => ?_) (fun h => ?_) <;> (try simp only [nrm] at h) <;> (try exact Bool.noConfusion h))
    all_goals try simp -dsimp [h0, hs]
    all_goals try clear hs
    all_goals simp [h0]
end Go.Proofs
namespace Go.Proofs
open Go Go.Ab
set_option linter.unusedSimpArgs false
variable {G : Nat → Option (List IC)}
def strd (x : Str) : DV := .agg ((encStr x).map .im)
theorem indexFunc_str (l : List Str) (p : Str → Bool) (k : Nat) (caps : List DC) (objs : List DObj) (hok : CallOk Tryd.prog k) (hf : ∀ x ∈ l, DCall Tryd.prog G k (strd x :: caps.map .one) objs (fun d o => d = bv (p x) ∧ o = objs)) (hl : l.length < 1000000) : DCall Tryd.prog G 65 [.one (.im (.sl (l.map encStr))), .one (.fn (.func k) caps)] objs (fun d o => d = iv (fidx p l) ∧ o = objs) := by
  refine DCall_intro Tryd.func65 rfl Tryd.ntmps65 (by simp) rfl ?_
  have hs : True := trivial
  repeat' first | (with_reducible first | refine q01 ?_ | refine q11 ?_ | refine q12 ?_) | (with_reducible refine DT_regionE [0, 1, 4, 5, 7, 8, 9, 16] ?_; simp -dsimp [hs])
  all_goals try simp -dsimp [hs]
  all_goals try clear hs
  refine DT_loop (ι := { k : Nat // k ≤ l.length ∧ ∀ j x, j < k → l[j]? = some x → p x = false }) (fun i => ⟨19, [(0, .one (.im (.sl (l.map encStr)))), (1, .one (.fn (.func k) caps)), (7, iv (l.length : Int)), (8, iv (i.1 : Int))], objs⟩) (fun i => l.length - i.1) ⟨0, by simp⟩ (Weak.of_keep [0,1,7,8] (by simp)) ?_
  rintro ⟨i, hi, hno⟩
  simp only [iv]
  by_cases hlt : i < l.length
  · have hx : l[i]? = some l[i] := by simp [hlt]
    have hw : IntKind.i64.wrap ((i : Int) + 1) = ((i + 1 : Nat) : Int) := i64w (by omega) (by omega)
    have hc := hf l[i] (by simp)
    simp only [strd, encStr, List.map_cons, List.map_nil, bv, rI] at hc
    have hs : True := trivial
    repeat' first | (with_reducible first | refine q01 ?_ | refine q02 ?_ | refine q03 ?_ | refine q04 ?_ | refine q05 ?_ | refine q06 ?_ | refine q11 ?_ | refine q12 ?_ | refine q14 ?_ | refine q16 ?_ | refine q17 ?_ | refine And.intro (by omega) ?_) | (with_reducible refine At.fn_ret (by simp -dsimp [hx, hw, hok, hs]; exact rfl) ?_) | (refine CallE.here hc ?_; try simp -dsimp [hx, hw, hok, hs]) | (with_reducible refine DT_regionE [0, 1, 4, 5, 7, 8, 9, 16] ?_; simp -dsimp [hx, hw, hok, hs]) | (refine DT_cond rfl (fun h => ?_) (fun h => ?_) <;> (try simp only [nrm] at h) <;> (try exact Bool.noConfusion h)) | with_reducible refine And.intro ?_ ?_
    all_goals try simp -dsimp [hx, hw, hok, hs]
    all_goals try clear hs
    all_goals try omega
    · exact (fidx_yes hx (by assumption) hno).symm
    · exact At.round ⟨i + 1, by omega, fun j x hj hjx => by
        by_cases e : j = i
        · subst e; rw [hx] at hjx; cases hjx; assumption
        · exact hno j x (by omega) hjx⟩ (by simp; omega) (Weak.of_keep [0,1,7,8] (by simp))
  · have hs : True := trivial
    repeat' first | (with_reducible first | refine q01 ?_ | refine q03 ?_ | refine q06 ?_ | refine q11 ?_ | refine q12 ?_ | refine q14 ?_ | refine q16 ?_ | refine q17 ?_) | (with_reducible refine At.fn_ret (by simp -dsimp [hs]; exact rfl) ?_) | (with_reducible refine DT_regionE [0, 1, 4, 5, 7, 8, 9, 16] ?_; simp -dsimp [hs]) | (refine DT_cond rfl (fun h => ?_) (fun h => ?_) <;> (try simp only [nrm] at h) <;> (try exact Bool.noConfusion h)) | with_reducible refine And.intro ?_ ?_
    all_goals try simp -dsimp [hs]
    all_goals try clear hs
    all_goals try omega
    exact (fidx_no fun j x hjx => hno j x (by have := lt_of_getElem? hjx; omega) hjx).symm
def firstV (L : List Str) (lt : Int) : Int := match L.find? (fun x => decide (x.letter = lt)) with | some x => x.frm | none => 0
def firstE (L : List Str) (lt : Int) : Int := if (L.any fun x => decide (x.letter = lt)) = true then 0 else 6
theorem first_case {L : List Str} {lt : Int} : (fidx (fun x => decide (x.letter = lt)) L = -1 ∧ firstV L lt = 0 ∧ firstE L lt = 6) ∨ ∃ (i : Nat) (h : i < L.length), fidx (fun x => decide (x.letter = lt)) L = (i : Int) ∧ firstV L lt = L[i].frm ∧ firstE L lt = 0 := by
  have hn := fidx_nonneg (fun x : Str => decide (x.letter = lt)) L
  unfold fidx at *
  cases h : L.findIdx? fun x => decide (x.letter = lt) with
  | none =>
    refine .inl ⟨rfl, ?_, ?_⟩
    · have : L.find? (fun x => decide (x.letter = lt)) = none := by
        rw [List.find?_eq_none]
        exact fun x hx => by simpa using (List.findIdx?_eq_none_iff.1 h) x hx
      rw [firstV, this]
    · rw [h] at hn
      rw [firstE, ← hn]; rfl
  | some i =>
    rw [List.findIdx?_eq_some_iff_getElem] at h
    obtain ⟨hlt, hp, hno⟩ := h
    refine .inr ⟨i, hlt, rfl, ?_, ?_⟩
    · have : L.find? (fun x => decide (x.letter = lt)) = some L[i] := by
        rw [List.find?_eq_some_iff_getElem]
        exact ⟨hp, i, hlt, rfl, fun j hj => by simpa using hno j hj⟩
      rw [firstV, this]
    · rw [firstE, if_pos]
      exact List.any_eq_true.2 ⟨L[i], List.getElem_mem hlt, hp⟩
theorem first1_c (n : Notes) (d lt : Int) (y : Str) : DCall Tryd.prog G 66 (strd y :: [DC.ptr 1 0].map .one) [.row ((encNotes n).map .im), .row [.im (rI d), .im (rI lt)]] (fun r o => r = bv (decide (y.letter = lt)) ∧ o = [.row ((encNotes n).map .im), .row [.im (rI d), .im (rI lt)]]) := by
  refine DCall.drop ?_
  refine DCall_intro Tryd.func66 rfl Tryd.ntmps66 (by simp) rfl ?_
  simp only [strd, encStr, encNotes, rI]
  have hs : True := trivial
  repeat' first | (with_reducible first | refine q01 ?_ | refine q11 ?_ | refine q17 ?_) | (with_reducible refine At.fn_ret (by simp -dsimp [hs]; exact rfl) ?_) | (with_reducible refine DT_regionE [0, 1, 2, 3] ?_; simp -dsimp [hs]) | with_reducible refine And.intro ?_ ?_
  all_goals try simp -dsimp [hs]
  all_goals try clear hs
def strL (n : Notes) (s : List Int) (d : Int) : List Str := if drawnE n s 1 d = 0 then strP (letF n s d) (marksP n.notes) else []
theorem strL_len (n : Notes) (s : List Int) (d : Int) : (strL n s d).length ≤ 2 * n.notes.length + 1 := by
  unfold strL
  split
  · have h1 := strT_len (letF n s d) (marksP n.notes) (marksP n.notes).length
    have h2 := marks_len n.notes
    unfold strT at h1
    rw [List.take_length] at h1; omega
  · simp
def firE (n : Notes) (s : List Int) (d lt : Int) : Int := if drawnE n s 1 d ≠ 0 then drawnE n s 1 d else firstE (strL n s d) lt
def firV (n : Notes) (s : List Int) (d lt : Int) : Int := if drawnE n s 1 d ≠ 0 then 0 else firstV (strL n s d) lt
set_option maxHeartbeats 1000000 in
theorem nFirst_c (n : Notes) (s : List Int) (d lt : Int) (hG : sheetG G) (hN : noteG G) (hS : SortOk G) (hs : NSm n) (hsl : s.length < 1000) (objs : List DObj) : DCall Tryd.prog G 30 [notesv n, isv s, refv d lt] objs (fun rr objs' => rr = .tup [iv (firV n s d lt), iv (firE n s d lt)] ∧ objs' = objs) := by
  refine DCall.frame ?_ (by simp) (by simp) objs
  refine DCall_intro Tryd.func30 rfl Tryd.ntmps30 (by simp) rfl ?_
  try simp only [notesv, isv, refv]
  have c1 := nStretches_c n s d hG hN hS hs hsl
  rw [← strL] at c1
  have hn16 := hs.2.1
  have hll := strL_len n s d
  by_cases h0 : drawnE n s 1 d = 0
  · rw [h0] at c1
    have hE : firE n s d lt = firstE (strL n s d) lt := by unfold firE; rw [if_neg (by simp [h0])]
    have hV : firV n s d lt = firstV (strL n s d) lt := by unfold firV; rw [if_neg (by simp [h0])]
    generalize strL n s d = L at *
    have c2 := indexFunc_str (G := G) L (fun x => decide (x.letter = lt)) 66 [.ptr 1 0] [.row ((encNotes n).map .im), .row [.im (rI d), .im (rI lt)]] (by simp) (fun y _ => first1_c n d lt y) (by omega)
    simp only [encNotes, rI, List.map_cons, List.map_nil] at c2
    rcases first_case (L := L) (lt := lt) with ⟨hf, hv, he⟩ | ⟨i, hi, hf, hv, he⟩
    · rw [hf] at c2
      rw [hv] at hV; rw [he] at hE
      have hs : True := trivial
      repeat' first | (with_reducible first | refine q01 ?_ | refine q02 ?_ | refine q11 ?_ | refine q14 ?_ | refine q17 ?_) | (with_reducible refine At.fn_ret (by simp -dsimp [hs]; exact rfl) ?_) | (refine CallE.pure (c1) ?_; try simp -dsimp [hs]) | (refine CallE.here (c2) ?_; try simp -dsimp [hs]) | (with_reducible refine DT_regionE [0, 1, 2, 3, 5, 6, 7, 8, 9, 10, 20, 26] ?_; simp -dsimp [hs]) | (refine DT_cond rfl (fun h => ?_) (fun h => ?_) <;> (try simp only [nrm] at h) <;> (try exact Bool.noConfusion h))
      all_goals try simp -dsimp [hs]
      all_goals try clear hs
      all_goals simp [hE, hV]
    · rw [hf] at c2
      rw [hv] at hV; rw [he] at hE
      generalize hy : L[i] = y at *
      have hi0 : ¬ (i : Int) < 0 := by omega
      have hs : True := trivial
      repeat' first | (with_reducible first | refine q01 ?_ | refine q11 ?_ | refine q14 ?_ | refine q17 ?_) | (with_reducible refine At.fn_ret (by simp -dsimp [hi, hy, hi0, hs]; exact rfl) ?_) | (refine CallE.pure (c1) ?_; try simp -dsimp [hi, hy, hi0, hs]) | (refine CallE.here (c2) ?_; try simp -dsimp [hi, hy, hi0, hs]) | (with_reducible refine DT_regionE [0, 1, 2, 3, 5, 6, 7, 8, 9, 10, 20, 26] ?_; simp -dsimp [hi, hy, hi0, hs]) | (refine DT_cond rfl (fun h => ?_) (fun h => ?_) <;> (try simp only [nrm] at h) <;> (try exact Bool.noConfusion h))
      all_goals try simp -dsimp [hi, hy, hi0, hs]
      all_goals try clear hs
      all_goals simp [hE, hV]
  · have hE : firE n s d lt = drawnE n s 1 d := by unfold firE; rw [if_pos h0]
    have hV : firV n s d lt = 0 := by unfold firV; rw [if_pos h0]
    have hs : True := trivial
    repeat' first | (with_reducible first | refine q01 ?_ | refine q02 ?_ | refine q11 ?_ | refine q17 ?_) | (with_reducible refine At.fn_ret (by simp -dsimp [h0, hs]; exact rfl) ?_) | (refine CallE.pure (c1) ?_; try simp -dsimp [h0, hs]) | (with_reducible refine DT_regionE [0, 1, 2, 3, 5, 6, 7, 8, 9, 10, 20, 26] ?_; simp -dsimp [h0, hs]) | (refine DT_cond rfl (fun h => ?_) (fun h => ?_) <;> (try simp only [nrm] at h) <;> (try exact Bool.noConfusion h))
    all_goals try simp -dsimp [h0, hs]
    all_goals try clear hs
    all_goals simp [hE, hV, h0]
end Go.Proofs
namespace Go.Proofs
open Go Go.Ab
set_option linter.unusedSimpArgs false
variable {G : Nat → Option (List IC)}
theorem stepR_len (L : List Str) (m c : Int) : (stepR L m c).length ≤ L.length + 1 := by
  unfold stepR
  split
  · simp
  · rename_i y h
    have hp := (last_get h).1
    split
    · simp <;> omega
    · simp
theorem strR_len (f : Int → Int) : ∀ k, (strR f k).length ≤ k
  | 0 => by simp [strR]
  | k + 1 => by
    have ih := strR_len f k
    have := stepR_len (strR f k) ((k : Int) + 1) (f ((k : Int) + 1))
    simp only [strR]; omega
set_option maxHeartbeats 4000000 in
theorem rStretches_k (K : Nat) (hK : (K : Int) = 999) (n : Notes) (s : List Int) (d : Int) (hs : NSm n) (hsl : s.length < 1000) (objs : List DObj) : DCall Tryd.prog G 29 [notesv n, isv s, iv d] objs (fun rr objs' => rr = .tup [strv (if drawnE n s 1 d = 0 then strR (letF n s d) K else []), iv (drawnE n s 1 d)] ∧ objs' = objs) := by
  refine DCall.frame ?_ (by simp) (by simp) objs
  refine DCall_intro Tryd.func29 rfl Tryd.ntmps29 (by simp) rfl ?_
  simp only [iv, isv]
  have c1 := asked3_c (G := G) n s 1 hs hsl
  have hn16 := hs.2.1
  have hr80 := hs.1.1
  have c2 := known3_c (G := G) n d (by omega)
  by_cases h0 : askedE n s 1 = 0
  · rw [h0] at c1
    have hE : drawnE n s 1 d = if d ∈ nums n.reg then 0 else 6 := by unfold drawnE; rw [if_neg (by simp [h0])]
    by_cases hd : d ∈ nums n.reg
    · rw [decide_eq_true hd] at c2
      rw [if_pos hd] at hE
      rw [if_pos hE]
      have c3 := fun m => force3_c (G := G) n s [] m (by omega) hsl (by simp)
      have c4 := fun m => letter3_c (G := G) n (frcL s [] m n.notes) d (frcL_len s [] m n.notes) (by omega)
      simp only [isv, bsv, List.map_nil] at c3 c4
      have hs : True := trivial
      repeat' first | (with_reducible first | refine q01 ?_ | refine q11 ?_ | refine q12 ?_ | refine q14 ?_) | (refine CallE.pure (c1) ?_; try simp -dsimp [hs]) | (refine CallE.pure (c2) ?_; try simp -dsimp [hs]) | (with_reducible refine DT_regionE [0, 1, 2, 3, 6, 7, 8, 9, 10, 11, 16, 21, 23, 46] ?_; simp -dsimp [hs]) | (refine DT_cond rfl (fun h => ?_) (fun h => ?_) <;> (try simp only [nrm] at h) <;> (try exact Bool.noConfusion h))
      all_goals try simp -dsimp [hs]
      all_goals try clear hs
      refine DT_loop (ι := { p : Nat × Nat × Bool // p.1 ≤ K }) (fun p => ⟨61, [(1, isv s), (2, iv d), (3, .one (.ptr 0 0)), (9, .one (.vec 2 p.1.2.1 0 (strR (letF n s d) p.1.1).length)), (10, iv ((p.1.1 : Int) + 1))], [.row ((encNotes n).map .im), .vec 3 [] 0 true, .vec 3 (ims ((strR (letF n s d) p.1.1).map encStr)) p.1.2.1 p.1.2.2]⟩) (fun p => K - p.1.1) ⟨(0, 0, true), by simp⟩ (Weak.of_keep [1,2,3,9,10] (by simp [strR])) ?_
      rintro ⟨⟨k, g, nl⟩, hk⟩
      simp only at hk
      simp only [iv, isv]
      by_cases hlt : k < K
      · have hle : (k : Int) + 1 ≤ 999 := by omega
        have hw : IntKind.i64.wrap ((k : Int) + 1 + 1) = ((k + 1 : Nat) : Int) + 1 := by rw [i64w (by omega) (by omega)]; omega
        have c5 := c3 ((k : Int) + 1)
        have c6 := c4 ((k : Int) + 1)
        rw [← letF] at c6
        have hst : strR (letF n s d) (k + 1) = stepR (strR (letF n s d) k) ((k : Int) + 1) (letF n s d ((k : Int) + 1)) := rfl
        have hLl := strR_len (letF n s d) k
        generalize letF n s d ((k : Int) + 1) = c at *
        generalize frcL s [] ((k : Int) + 1) n.notes = F at *
        generalize strR (letF n s d) k = L at *
        generalize hm : (k : Int) + 1 = m at *
        cases hlast : L.getLast? with
        | none =>
          obtain rfl : L = [] := List.getLast?_eq_none_iff.1 hlast
          simp only [stepR, List.getLast?_nil] at hst
          have hw00 : IntKind.i64.wrap 0 = 0 := i64w (by omega) (by omega)
          have hs : True := trivial
          repeat' first | (with_reducible first | refine q01 ?_ | refine q04 ?_ | refine q11 ?_ | refine q12 ?_ | refine q14 ?_) | (refine QCall_pure (c5) ?_; try simp -dsimp [hle, hw, hw00, hs]) | (refine QCall_pure (c6) ?_; try simp -dsimp [hle, hw, hw00, hs]) | (refine DT_regionM (id := 10) (nt := 61) 8 [0, 1, 2, 3, 6, 7, 8, 9, 10, 11, 16, 21, 23, 46] mixed rfl (by kernel_rfl) ?_; simp -dsimp [hle, hw, hw00, hs]) | (with_reducible refine DT_regionE [0, 1, 2, 3, 6, 7, 8, 9, 10, 11, 16, 21, 23, 46] ?_; simp -dsimp [hle, hw, hw00, hs]) | (refine DT_cond rfl (fun h => ?_) (fun h => ?_) <;> (try simp only [nrm] at h) <;> (try exact Bool.noConfusion h))
          all_goals try simp -dsimp [hle, hw, hw00, hs]
          all_goals try clear hs
          exact At.round ⟨(k + 1, g + 1, false), by simp only; omega⟩ (by simp only; omega) (Weak.of_drop [1,2,3,9,10] 3 (by simp) (by simp) (by simp [hst]))
        | some y =>
          obtain ⟨hp, hlg⟩ := last_get hlast
          simp only [stepR, hlast] at hst
          have hwl : IntKind.i64.wrap ((L.length : Int) - 1) = ((L.length - 1 : Nat) : Int) := by rw [i64w (by omega) (by omega)]; omega
          have hl1 : L.length - 1 < L.length := by omega
          have hl0 : ¬ (L.length : Int) = 0 := by omega
          have hLy : L[L.length - 1] = y := (List.getElem?_eq_some_iff.1 hlg).2
          have hLne : ¬ L = [] := fun e => by subst e; exact absurd hp (by simp)
          have hwL : IntKind.i64.wrap (L.length : Int) = (L.length : Int) := i64w (by omega) (by omega)
          by_cases he : y.letter = c
          · rw [if_pos he, he] at hst
            have hset3 : ims ((L.map encStr).set (L.length - 1) (encStr ⟨y.frm, m, c⟩)) = ims (L.map encStr).dropLast ++ [(encStr ⟨y.frm, m, c⟩).map .im] := by
              have := congrArg (List.map encStr) (set_last (z := ⟨y.frm, m, c⟩) hlast)
              rw [List.map_set, List.map_append, List.map_dropLast] at this
              rw [this, ims_append]; rfl
            simp only [encStr, rI, List.map_cons, List.map_nil] at hset3
            have hs : True := trivial
            repeat' first | (with_reducible first | refine q01 ?_ | refine q04 ?_ | refine q11 ?_ | refine q12 ?_ | refine q14 ?_) | (refine QCall_pure (c5) ?_; try simp -dsimp [hle, hw, hwl, hlg, hl1, hl0, hLy, hLne, hwL, he, hs]) | (refine QCall_pure (c6) ?_; try simp -dsimp [hle, hw, hwl, hlg, hl1, hl0, hLy, hLne, hwL, he, hs]) | (refine DT_regionM (id := 10) (nt := 61) 8 [0, 1, 2, 3, 6, 7, 8, 9, 10, 11, 16, 21, 23, 46] mixed rfl (by kernel_rfl) ?_; simp -dsimp [hle, hw, hwl, hlg, hl1, hl0, hLy, hLne, hwL, he, hs]) | (with_reducible refine DT_regionE [0, 1, 2, 3, 6, 7, 8, 9, 10, 11, 16, 21, 23, 46] ?_; simp -dsimp [hle, hw, hwl, hlg, hl1, hl0, hLy, hLne, hwL, he, hs]) | (refine DT_cond rfl (fun h => ?_) (fun h => ?_) <;> (try simp only [nrm] at h) <;> (try exact Bool.noConfusion h))
            all_goals try simp -dsimp [hle, hw, hwl, hlg, hl1, hl0, hLy, hLne, hwL, he, hs]
            all_goals try clear hs
            exact At.round ⟨(k + 1, g, nl), by simp only; omega⟩ (by simp only; omega) (Weak.of_drop [1,2,3,9,10] 3 (by simp) (by simp) (by simp [hst]; exact ⟨by omega, hset3⟩))
          · rw [if_neg he] at hst
            have hs : True := trivial
            repeat' first | (with_reducible first | refine q01 ?_ | refine q04 ?_ | refine q11 ?_ | refine q12 ?_ | refine q14 ?_ | refine And.intro (by omega) ?_) | (refine QCall_pure (c5) ?_; try simp -dsimp [hle, hw, hwl, hlg, hl1, hl0, hLy, hLne, hwL, he, hs]) | (refine QCall_pure (c6) ?_; try simp -dsimp [hle, hw, hwl, hlg, hl1, hl0, hLy, hLne, hwL, he, hs]) | (refine DT_regionM (id := 10) (nt := 61) 8 [0, 1, 2, 3, 6, 7, 8, 9, 10, 11, 16, 21, 23, 46] mixed rfl (by kernel_rfl) ?_; simp -dsimp [hle, hw, hwl, hlg, hl1, hl0, hLy, hLne, hwL, he, hs]) | (with_reducible refine DT_regionE [0, 1, 2, 3, 6, 7, 8, 9, 10, 11, 16, 21, 23, 46] ?_; simp -dsimp [hle, hw, hwl, hlg, hl1, hl0, hLy, hLne, hwL, he, hs]) | (refine DT_cond rfl (fun h => ?_) (fun h => ?_) <;> (try simp only [nrm] at h) <;> (try exact Bool.noConfusion h))
            all_goals try simp -dsimp [hle, hw, hwl, hlg, hl1, hl0, hLy, hLne, hwL, he, hs]
            all_goals try clear hs
            exact At.round ⟨(k + 1, g + 1, false), by simp only; omega⟩ (by simp only; omega) (Weak.of_drop [1,2,3,9,10] 3 (by simp) (by simp) (by simp [hst]))
      · obtain rfl : k = K := by omega
        have hgt : ¬ (k : Int) + 1 ≤ 999 := by omega
        have hs : True := trivial
        repeat' first | (with_reducible first | refine q01 ?_ | refine q03 ?_ | refine q06 ?_ | refine q11 ?_ | refine q16 ?_ | refine q17 ?_) | (with_reducible refine At.fn_ret (by simp -dsimp [hgt, hs]; exact rfl) ?_) | (with_reducible refine DT_regionE [0, 1, 2, 3, 6, 7, 8, 9, 10, 11, 16, 21, 23, 46] ?_; simp -dsimp [hgt, hs]) | (refine DT_cond rfl (fun h => ?_) (fun h => ?_) <;> (try simp only [nrm] at h) <;> (try exact Bool.noConfusion h))
        all_goals try simp -dsimp [hgt, hs]
        all_goals try clear hs
        all_goals simp [hE]
    · rw [decide_eq_false hd] at c2
      rw [if_neg hd] at hE
      have hs : True := trivial
      repeat' first | (with_reducible first | refine q01 ?_ | refine q02 ?_ | refine q11 ?_ | refine q14 ?_ | refine q17 ?_) | (with_reducible refine At.fn_ret (by simp -dsimp [hs]; exact rfl) ?_) | (refine CallE.pure (c1) ?_; try simp -dsimp [hs]) | (refine CallE.pure (c2) ?_; try simp -dsimp [hs]) | (with_reducible refine DT_regionE [0, 1, 2, 3, 6, 7, 8, 9, 10, 11, 16, 21, 23, 46] ?_; simp -dsimp [hs]) | (refine DT_cond rfl (fun h => ?_) (fun h => ?_) <;> (try simp only [nrm] at h) <;> (try exact Bool.noConfusion h))
      all_goals try simp -dsimp [hs]
      all_goals try clear hs
      all_goals simp [hE]
  · have hE : drawnE n s 1 d = askedE n s 1 := by unfold drawnE; rw [if_pos h0]
    have hs : True := trivial
    repeat' first | (with_reducible first | refine q01 ?_ | refine q02 ?_ | refine q11 ?_ | refine q17 ?_) | (with_reducible refine At.fn_ret (by simp -dsimp [h0, hs]; exact rfl) ?_) | (refine CallE.pure (c1) ?_; try simp -dsimp [h0, hs]) | (with_reducible refine DT_regionE [0, 1, 2, 3, 6, 7, 8, 9, 10, 11, 16, 21, 23, 46] ?_; simp -dsimp [h0, hs]) | (refine DT_cond rfl (fun h => ?_) (fun h => ?_) <;> (try simp only [nrm] at h) <;> (try exact Bool.noConfusion h))
    all_goals try simp -dsimp [h0, hs]
    all_goals try clear hs
    all_goals simp [hE, h0]
end Go.Proofs
namespace Go.Proofs
open Go Go.Ab
set_option linter.unusedSimpArgs false
variable {G : Nat → Option (List IC)}
theorem rStretches_c (n : Notes) (s : List Int) (d : Int) (hs : NSm n) (hsl : s.length < 1000) (objs : List DObj) : DCall Tryd.prog G 29 [notesv n, isv s, iv d] objs (fun rr objs' => rr = .tup [strv (strL n s d), iv (drawnE n s 1 d)] ∧ objs' = objs) := by
  obtain ⟨K, hK⟩ : ∃ K : Nat, (K : Int) = 999 := ⟨999, rfl⟩
  have h := rStretches_k (G := G) K hK n s d hs hsl objs
  have e : (if drawnE n s 1 d = 0 then strR (letF n s d) K else []) = strL n s d := by
    unfold strL
    split
    · rename_i h0
      have ha : askedE n s 1 = 0 := Classical.byContradiction fun h => h (by unfold drawnE at h0; rw [if_pos h] at h0; exact h0)
      exact (runs_eq (notes_ok (asked_ok ha).1).2.2.1 s d K hK).symm
    · rfl
  rw [e] at h; exact h
set_option maxHeartbeats 1000000 in
theorem rFirst_c (n : Notes) (s : List Int) (d lt : Int) (hs : NSm n) (hsl : s.length < 1000) (objs : List DObj) : DCall Tryd.prog G 31 [notesv n, isv s, refv d lt] objs (fun rr objs' => rr = .tup [iv (firV n s d lt), iv (firE n s d lt)] ∧ objs' = objs) := by
  refine DCall.frame ?_ (by simp) (by simp) objs
  refine DCall_intro Tryd.func31 rfl Tryd.ntmps31 (by simp) rfl ?_
  try simp only [notesv, isv, refv]
  have c1 := rStretches_c (G := G) n s d hs hsl
  have hn16 := hs.2.1
  have hll := strL_len n s d
  by_cases h0 : drawnE n s 1 d = 0
  · rw [h0] at c1
    have hE : firE n s d lt = firstE (strL n s d) lt := by unfold firE; rw [if_neg (by simp [h0])]
    have hV : firV n s d lt = firstV (strL n s d) lt := by unfold firV; rw [if_neg (by simp [h0])]
    generalize strL n s d = L at *
    have hs : True := trivial
    repeat' first | (with_reducible first | refine q01 ?_ | refine q11 ?_ | refine q12 ?_ | refine q14 ?_) | (refine CallE.pure (c1) ?_; try simp -dsimp [hs]) | (with_reducible refine DT_regionE [0, 1, 2, 3, 5, 6, 7, 8, 9, 10, 20, 25, 35] ?_; simp -dsimp [hs]) | (refine DT_cond rfl (fun h => ?_) (fun h => ?_) <;> (try simp only [nrm] at h) <;> (try exact Bool.noConfusion h))
    all_goals try simp -dsimp [hs]
    all_goals try clear hs
    refine DT_loop (ι := { k : Nat // k ≤ L.length ∧ ∀ x ∈ L.take k, x.letter ≠ lt }) (fun p => ⟨41, [(5, .one (.ptr 1 0)), (8, strv L), (10, iv (p.1 : Int))], [.row ((encNotes n).map .im), .row [.im (rI d), .im (rI lt)]]⟩) (fun p => L.length - p.1) ⟨0, by simp⟩ (Weak.of_keep [5,8,10] (by simp)) ?_
    rintro ⟨k, hk, hno⟩
    simp only [iv, strv]
    by_cases hlt : k < L.length
    · have hw : IntKind.i64.wrap ((k : Int) + 1) = ((k + 1 : Nat) : Int) := i64w (by omega) (by omega)
      have htk : L.take (k + 1) = L.take k ++ [L[k]] := List.take_succ_eq_append_getElem hlt
      have hmem : L[k] ∈ L := List.getElem_mem hlt
      have hfd : ∀ x, L[k] = x → x.letter = lt → L.find? (fun x => decide (x.letter = lt)) = some x := fun x e hx => by
        rw [List.find?_eq_some_iff_getElem]
        refine ⟨by simpa using hx, k, hlt, e, fun j hj => ?_⟩
        have := hno L[j] (List.mem_take_iff_getElem.2 ⟨j, by omega, rfl⟩)
        simpa using this
      have hany : ∀ x, L[k] = x → x.letter = lt → (L.any fun x => decide (x.letter = lt)) = true := fun x e hx => List.any_eq_true.2 ⟨L[k], List.getElem_mem hlt, by rw [e]; simpa using hx⟩
      generalize hy : L[k] = y at *
      by_cases he : y.letter = lt
      · have hV' : firstV L lt = y.frm := by rw [firstV, hfd y rfl he]
        have hE' : firstE L lt = 0 := by rw [firstE, if_pos (hany y rfl he)]
        have hs : True := trivial
        repeat' first | (with_reducible first | refine q01 ?_ | refine q02 ?_ | refine q05 ?_ | refine q11 ?_ | refine q12 ?_ | refine q14 ?_ | refine q17 ?_) | (with_reducible refine At.fn_ret (by simp -dsimp [hlt, hy, he, hs]; exact rfl) ?_) | (refine DT_regionM (id := 7) (nt := 41) 8 [0, 1, 2, 3, 5, 6, 7, 8, 9, 10, 20, 25, 35] mixed rfl (by kernel_rfl) ?_; simp -dsimp [hlt, hy, he, hs]) | (with_reducible refine DT_regionE [0, 1, 2, 3, 5, 6, 7, 8, 9, 10, 20, 25, 35] ?_; simp -dsimp [hlt, hy, he, hs]) | (refine DT_cond rfl (fun h => ?_) (fun h => ?_) <;> (try simp only [nrm] at h) <;> (try exact Bool.noConfusion h))
        all_goals try simp -dsimp [hlt, hy, he, hs]
        all_goals try clear hs
        all_goals simp [hE, hV, hE', hV']
      · have hs : True := trivial
        repeat' first | (with_reducible first | refine q01 ?_ | refine q04 ?_ | refine q11 ?_ | refine q12 ?_ | refine q14 ?_) | (refine DT_regionM (id := 7) (nt := 41) 8 [0, 1, 2, 3, 5, 6, 7, 8, 9, 10, 20, 25, 35] mixed rfl (by kernel_rfl) ?_; simp -dsimp [hlt, hy, he, hw, hs]) | (with_reducible refine DT_regionE [0, 1, 2, 3, 5, 6, 7, 8, 9, 10, 20, 25, 35] ?_; simp -dsimp [hlt, hy, he, hw, hs]) | (refine DT_cond rfl (fun h => ?_) (fun h => ?_) <;> (try simp only [nrm] at h) <;> (try exact Bool.noConfusion h))
        all_goals try simp -dsimp [hlt, hy, he, hw, hs]
        all_goals try clear hs
        exact At.round ⟨k + 1, by omega, fun x hx => by
          rw [htk] at hx
          rcases List.mem_append.1 hx with h | h
          · exact hno x h
          · simp at h; rw [h]; exact he⟩ (by simp; omega) (Weak.of_keep [5,8,10] (by simp))
    · rw [List.take_of_length_le (by omega)] at hno
      have hV' : firstV L lt = 0 := by
        rw [firstV, show L.find? (fun x => decide (x.letter = lt)) = none by rw [List.find?_eq_none]; exact fun x hx => by simpa using hno x hx]
      have hE' : firstE L lt = 6 := by
        rw [firstE, if_neg]
        rw [List.any_eq_true]
        rintro ⟨x, hx, h⟩
        exact hno x hx (by simpa using h)
      have hs : True := trivial
      repeat' first | (with_reducible first | refine q01 ?_ | refine q03 ?_ | refine q06 ?_ | refine q11 ?_ | refine q16 ?_ | refine q17 ?_) | (with_reducible refine At.fn_ret (by simp -dsimp [hlt, hs]; exact rfl) ?_) | (with_reducible refine DT_regionE [0, 1, 2, 3, 5, 6, 7, 8, 9, 10, 20, 25, 35] ?_; simp -dsimp [hlt, hs]) | (refine DT_cond rfl (fun h => ?_) (fun h => ?_) <;> (try simp only [nrm] at h) <;> (try exact Bool.noConfusion h))
      all_goals try simp -dsimp [hlt, hs]
      all_goals try clear hs
      all_goals simp [hE, hV, hE', hV']
  · have hE : firE n s d lt = drawnE n s 1 d := by unfold firE; rw [if_pos h0]
    have hV : firV n s d lt = 0 := by unfold firV; rw [if_pos h0]
    have hs : True := trivial
    repeat' first | (with_reducible first | refine q01 ?_ | refine q02 ?_ | refine q11 ?_ | refine q17 ?_) | (with_reducible refine At.fn_ret (by simp -dsimp [h0, hs]; exact rfl) ?_) | (refine CallE.pure (c1) ?_; try simp -dsimp [h0, hs]) | (with_reducible refine DT_regionE [0, 1, 2, 3, 5, 6, 7, 8, 9, 10, 20, 25, 35] ?_; simp -dsimp [h0, hs]) | (refine DT_cond rfl (fun h => ?_) (fun h => ?_) <;> (try simp only [nrm] at h) <;> (try exact Bool.noConfusion h))
    all_goals try simp -dsimp [h0, hs]
    all_goals try clear hs
    all_goals simp [hE, hV, h0]
theorem sameStr_c (l : List Str) (hl : l.length < 1000000) (objs : List DObj) : DCall Tryd.prog G 32 [strv l, strv l] objs (fun rr objs' => rr = bv true ∧ objs' = objs) := by
  refine DCall.frame ?_ (by simp) (by simp) objs
  refine DCall_intro Tryd.func32 rfl Tryd.ntmps32 (by simp) rfl ?_
  try simp only [iv]
  simp only [strv, bv]
  have hs : True := trivial
  repeat' first | (with_reducible first | refine q01 ?_ | refine q11 ?_ | refine q12 ?_ | refine q14 ?_) | (with_reducible refine DT_regionE [0, 1, 4, 5, 10, 14, 25] ?_; simp -dsimp [hs]) | (refine DT_cond rfl (fun h => ?_) (fun h => ?_) <;> (try simp only [nrm] at h) <;> (try exact Bool.noConfusion h))
  all_goals try simp -dsimp [hs]
  all_goals try clear hs
  refine DT_loop (ι := { k : Nat // k ≤ l.length }) (fun p => ⟨26, [(0, strv l), (1, strv l), (5, iv (p.1 : Int))], []⟩) (fun p => l.length - p.1) ⟨0, by simp⟩ (Weak.of_keep [0,1,5] (by simp)) ?_
  rintro ⟨k, hk⟩
  simp only [iv, strv]
  by_cases hlt : k < l.length
  · have hw : IntKind.i64.wrap ((k : Int) + 1) = ((k + 1 : Nat) : Int) := i64w (by omega) (by omega)
    generalize hx : l[k] = x
    have hs : True := trivial
    repeat' first | (with_reducible first | refine q01 ?_ | refine q04 ?_ | refine q11 ?_ | refine q12 ?_ | refine q14 ?_) | (refine DT_regionM (id := 6) (nt := 26) 9 [0, 1, 4, 5, 10, 14, 25] mixed rfl (by kernel_rfl) ?_; simp -dsimp [hx, hlt, hw, hs]) | (with_reducible refine DT_regionE [0, 1, 4, 5, 10, 14, 25] ?_; simp -dsimp [hx, hlt, hw, hs]) | (refine DT_cond rfl (fun h => ?_) (fun h => ?_) <;> (try simp only [nrm] at h) <;> (try exact Bool.noConfusion h))
    all_goals try simp -dsimp [hx, hlt, hw, hs]
    all_goals try clear hs
    exact At.round ⟨k + 1, by omega⟩ (by simp; omega) (Weak.of_keep [0,1,5] (by simp))
  · have hs : True := trivial
    repeat' first | (with_reducible first | refine q01 ?_ | refine q03 ?_ | refine q06 ?_ | refine q11 ?_ | refine q16 ?_ | refine q17 ?_) | (with_reducible refine At.fn_ret (by simp -dsimp [hlt, hs]; exact rfl) ?_) | (with_reducible refine DT_regionE [0, 1, 4, 5, 10, 14, 25] ?_; simp -dsimp [hlt, hs]) | (refine DT_cond rfl (fun h => ?_) (fun h => ?_) <;> (try simp only [nrm] at h) <;> (try exact Bool.noConfusion h))
    all_goals try simp -dsimp [hlt, hs]
    all_goals try clear hs
set_option maxHeartbeats 2000000 in
theorem noteRuns_c (n : Notes) (s : List Int) (d lt : Int) (hG : sheetG G) (hN : noteG G) (hS : SortOk G) (hk : NKind n) (objs : List DObj) : DCall Tryd.prog G 5 [notesv n, isv s, refv d lt] objs (fun rr objs' => rr = bv true ∧ objs' = objs) := by
  refine DCall.frame ?_ (by simp) (by simp) objs
  refine DCall_intro Tryd.func5 rfl Tryd.ntmps5 (by simp) rfl ?_
  try simp only [notesv, isv, refv]
  have c1 := great3_c (G := G) n
  cases hq : smallNB n
  · rw [hq] at c1
    have hs : True := trivial
    repeat' first | (with_reducible first | refine q01 ?_ | refine q02 ?_ | refine q11 ?_ | refine q17 ?_) | (with_reducible refine At.fn_ret (by simp -dsimp [hs]; exact rfl) ?_) | (refine CallE.pure (c1) ?_; try simp -dsimp [hs]) | (with_reducible refine DT_regionE [0, 1, 2, 3, 5, 6, 7, 8, 9, 10, 11, 12, 13, 14, 15, 22] ?_; simp -dsimp [hs]) | (refine DT_cond rfl (fun h => ?_) (fun h => ?_) <;> (try simp only [nrm] at h) <;> (try exact Bool.noConfusion h))
    all_goals try simp -dsimp [hs]
    all_goals try clear hs
  · obtain ⟨hsn, hs⟩ := NSm_of hk hq
    rw [hq] at c1
    by_cases hl : 20 < s.length
    · have hli : (20 : Int) < s.length := by omega
      have hs : True := trivial
      repeat' first | (with_reducible first | refine q01 ?_ | refine q02 ?_ | refine q11 ?_ | refine q17 ?_) | (with_reducible refine At.fn_ret (by simp -dsimp [hli, hs]; exact rfl) ?_) | (refine CallE.pure (c1) ?_; try simp -dsimp [hli, hs]) | (with_reducible refine DT_regionE [0, 1, 2, 3, 5, 6, 7, 8, 9, 10, 11, 12, 13, 14, 15, 22] ?_; simp -dsimp [hli, hs]) | (refine DT_cond rfl (fun h => ?_) (fun h => ?_) <;> (try simp only [nrm] at h) <;> (try exact Bool.noConfusion h))
      all_goals try simp -dsimp [hli, hs]
      all_goals try clear hs
    · have hli : ¬ (20 : Int) < s.length := by omega
      have hsl : s.length < 1000 := by omega
      have hn16 := hs.2.1
      have hll := strL_len n s d
      have c2 := twin3_c (G := G) n hsn
      have c3 := nStretches_c n s d hG hN hS hs hsl
      rw [← strL] at c3
      have c4 := rStretches_c (G := G) n s d hs hsl
      have c5 := nFirst_c n s d lt hG hN hS hs hsl
      have c6 := rFirst_c (G := G) n s d lt hs hsl
      have c7 := sameStr_c (G := G) (strL n s d) (by omega)
      have c8 := same3_c (G := G) n hsn
      simp only [refv] at c5 c6
      generalize strL n s d = L at *
      have hs : True := trivial
      repeat' first | (with_reducible first | refine q01 ?_ | refine q11 ?_ | refine q14 ?_ | refine q17 ?_) | (with_reducible refine At.fn_ret (by simp -dsimp [hli, hs]; exact rfl) ?_) | (refine CallE.pure (c1) ?_; try simp -dsimp [hli, hs]) | (refine CallE.pure (c2) ?_; try simp -dsimp [hli, hs]) | (refine CallE.pure (c3) ?_; try simp -dsimp [hli, hs]) | (refine CallE.pure (c4) ?_; try simp -dsimp [hli, hs]) | (refine CallE.pure (c5) ?_; try simp -dsimp [hli, hs]) | (refine CallE.pure (c6) ?_; try simp -dsimp [hli, hs]) | (refine CallE.pure (c7) ?_; try simp -dsimp [hli, hs]) | (refine CallE.pure (c8) ?_; try simp -dsimp [hli, hs]) | (with_reducible refine DT_regionE [0, 1, 2, 3, 5, 6, 7, 8, 9, 10, 11, 12, 13, 14, 15, 22] ?_; simp -dsimp [hli, hs]) | (refine DT_cond rfl (fun h => ?_) (fun h => ?_) <;> (try simp only [nrm] at h) <;> (try exact Bool.noConfusion h))
      all_goals try simp -dsimp [hli, hs]
      all_goals try clear hs
end Go.Proofs
