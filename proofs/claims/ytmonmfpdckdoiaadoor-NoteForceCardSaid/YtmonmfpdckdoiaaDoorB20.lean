/- Part 20 of the proof whose last text closes the card: laws and walks that hold without conditions beyond those that each theorem names. -/
import Derived.Test.YtmonmfpdckdoiaaDoorB11
import Derived.Test.YtmonmfpdckdoiaaDoorB16
import Derived.Test.YtmonmfpdckdoiaaDoorB19
set_option linter.all false
set_option linter.deprecated false
namespace Go.Proofs
open Go Go.Ab
attribute [local simp] dslice setLp
set_option linter.unusedSimpArgs false
variable {G : Nat → Option (List IC)}
/-- The numbers, one behind another; a number that its forerunner has is left out. -/
def numsTo (l : List Issue) : Nat → List Int
  | 0 => []
  | k + 1 => numsTo l k ++ (match l[k]? with
    | some x => if k = 0 ∨ (l[k - 1]?).map Issue.drawing ≠ some x.drawing then [x.drawing] else []
    | none => [])
def nums (l : List Issue) : List Int := numsTo l l.length
theorem numsTo_length (l : List Issue) : ∀ k, (numsTo l k).length ≤ k
  | 0 => Nat.le_refl _
  | k + 1 => by
    have := numsTo_length l k
    simp only [numsTo, List.length_append]
    split
    · split <;> simp <;> omega
    · simp; omega
theorem numbers_c (l : List Issue) (hl : l.length < 1000000) (objs : List DObj) : DCall Tryd.prog G 91 [regv l] objs (fun d objs' => d = isv (nums l) ∧ objs' = objs) := by
  refine DCall.frame ?_ (by simp) (by simp) objs
  refine DCall_intro Tryd.func91 rfl Tryd.ntmps91 (by simp) rfl ?_
  simp only [regv, isv]
  have hs : True := trivial
  repeat' first | (with_reducible first | refine q01 ?_ | refine q02 ?_ | refine q03 ?_ | refine q04 ?_ | refine q05 ?_ | refine q06 ?_ | refine q07 (by decide) ?_ | refine q08 ?_ | refine q09 ?_ | refine q10 ?_ | refine q11 ?_ | refine q12 ?_ | refine q13 ?_ | refine q14 ?_ | refine q15 ?_ | refine q16 ?_ | refine q17 ?_ | refine And.intro (by omega) ?_) | (with_reducible refine At.fn_ret (by simp -dsimp [hs]; exact rfl) ?_) | (with_reducible refine At.fn_end (by simp -dsimp [hs]; exact rfl) ?_) | (with_reducible refine DT_regionE [0, 1, 2, 3, 4, 5, 10, 31] ?_; simp -dsimp [hs]) | (refine DT_cond rfl (fun h => ?_) (fun h => ?_) <;> (try simp only [nrm] at h) <;> (try exact Bool.noConfusion h)) | (with_reducible refine GStop_split ?_ ?_ <;> intro h <;> have h0 := h <;> (try simp only [nrm] at h) <;> (try exact Bool.noConfusion h) <;> have h2 := h <;> (try simp at h2) <;> (replace hs := And.intro h0 (And.intro h (And.intro h2 hs))) <;> simp -dsimp [h0, h, h2, hs]) | (with_reducible refine imp_At (fun h => ?_); (try simp only [List.map_eq_nil_iff] at h); (try subst h); try simp -dsimp [hs]) | with_reducible refine And.intro ?_ ?_
  all_goals try simp -dsimp [hs]
  all_goals try clear hs
  refine DT_loop (ι := { p : Nat × Nat × Bool // p.1 ≤ l.length }) (fun p => ⟨37, [(1, .one (.ptr 0 0)), (3, .one (.vec 2 p.1.2.1 0 (numsTo l p.1.1).length)), (4, iv (p.1.1 : Int))], [.row [.im (.sl (l.map encIssue))], .vec 1 [] 0 true, .vec 1 (ims ((numsTo l p.1.1).map encI)) p.1.2.1 p.1.2.2]⟩) (fun p => l.length - p.1.1) ⟨(0, 0, true), by simp⟩ (Weak.of_keep [1,3,4] (by simp [iv, numsTo])) ?_
  rintro ⟨⟨k, g, nl⟩, hk⟩
  have hlen := numsTo_length l k
  simp only [iv]
  by_cases hlt : k < l.length
  · have hx : l[k]? = some l[k] := by simp [hlt]
    have hw : IntKind.i64.wrap ((k : Int) + 1) = ((k + 1 : Nat) : Int) := i64w (by omega) (by omega)
    by_cases hk0 : k = 0
    · subst hk0
      have hs : True := trivial
      repeat' first | (with_reducible first | refine q01 ?_ | refine q02 ?_ | refine q03 ?_ | refine q04 ?_ | refine q05 ?_ | refine q06 ?_ | refine q07 (by decide) ?_ | refine q08 ?_ | refine q09 ?_ | refine q10 ?_ | refine q11 ?_ | refine q12 ?_ | refine q13 ?_ | refine q14 ?_ | refine q15 ?_ | refine q16 ?_ | refine q17 ?_ | refine And.intro (by omega) ?_) | (with_reducible refine At.fn_ret (by simp -dsimp [hx, encIssue, rI, hw, hs]; exact rfl) ?_) | (with_reducible refine At.fn_end (by simp -dsimp [hx, encIssue, rI, hw, hs]; exact rfl) ?_) | (with_reducible refine DT_regionE [0, 1, 2, 3, 4, 5, 10, 31] ?_; simp -dsimp [hx, encIssue, rI, hw, hs]) | (refine DT_cond rfl (fun h => ?_) (fun h => ?_) <;> (try simp only [nrm] at h) <;> (try exact Bool.noConfusion h)) | (with_reducible refine GStop_split ?_ ?_ <;> intro h <;> have h0 := h <;> (try simp only [nrm] at h) <;> (try exact Bool.noConfusion h) <;> have h2 := h <;> (try simp at h2) <;> (replace hs := And.intro h0 (And.intro h (And.intro h2 hs))) <;> simp -dsimp [h0, h, h2, hx, encIssue, rI, hw, hs]) | (with_reducible refine imp_At (fun h => ?_); (try simp only [List.map_eq_nil_iff] at h); (try subst h); try simp -dsimp [hx, encIssue, rI, hw, hs]) | with_reducible refine And.intro ?_ ?_
      all_goals try simp -dsimp [hx, encIssue, rI, hw, hs]
      all_goals try clear hs
      all_goals try omega
      have hs : numsTo l 1 = numsTo l 0 ++ [l[0].drawing] := by simp [numsTo, hx]
      exact At.round ⟨(1, g + 1, false), by simp; omega⟩ (by simp; omega) (Weak.of_drop [1,3,4] 3 (by simp) (by simp) (by simp [hs, encI, rI]; exact hw))
    · obtain ⟨m, hm⟩ : ∃ m, k = m + 1 := ⟨k - 1, by omega⟩
      have hw1 : IntKind.i64.wrap ((k : Int) - 1) = m := i64w (by omega) (by omega) |>.trans (by omega)
      have hy : l[m]? = some l[m] := by simp
      have hs : True := trivial
      repeat' first | (with_reducible first | refine q01 ?_ | refine q02 ?_ | refine q03 ?_ | refine q04 ?_ | refine q05 ?_ | refine q06 ?_ | refine q07 (by decide) ?_ | refine q08 ?_ | refine q09 ?_ | refine q10 ?_ | refine q11 ?_ | refine q12 ?_ | refine q13 ?_ | refine q14 ?_ | refine q15 ?_ | refine q16 ?_ | refine q17 ?_ | refine And.intro (by omega) ?_) | (with_reducible refine At.fn_ret (by simp -dsimp [hx, hy, encIssue, rI, hw, hw1, hk0, hs]; exact rfl) ?_) | (with_reducible refine At.fn_end (by simp -dsimp [hx, hy, encIssue, rI, hw, hw1, hk0, hs]; exact rfl) ?_) | (with_reducible refine DT_regionE [0, 1, 2, 3, 4, 5, 10, 31] ?_; simp -dsimp [hx, hy, encIssue, rI, hw, hw1, hk0, hs]) | (refine DT_cond rfl (fun h => ?_) (fun h => ?_) <;> (try simp only [nrm] at h) <;> (try exact Bool.noConfusion h)) | (with_reducible refine GStop_split ?_ ?_ <;> intro h <;> have h0 := h <;> (try simp only [nrm] at h) <;> (try exact Bool.noConfusion h) <;> have h2 := h <;> (try simp at h2) <;> (replace hs := And.intro h0 (And.intro h (And.intro h2 hs))) <;> simp -dsimp [h0, h, h2, hx, hy, encIssue, rI, hw, hw1, hk0, hs]) | (with_reducible refine imp_At (fun h => ?_); (try simp only [List.map_eq_nil_iff] at h); (try subst h); try simp -dsimp [hx, hy, encIssue, rI, hw, hw1, hk0, hs]) | with_reducible refine And.intro ?_ ?_
      all_goals try simp -dsimp [hx, hy, encIssue, rI, hw, hw1, hk0, hs]
      all_goals try clear hs
      all_goals try omega
      · rename_i h
        have hs : numsTo l (k + 1) = numsTo l k ++ [l[k].drawing] := by
          simp only [numsTo, hx, show k - 1 = m from by omega, hy]
          simpa [hk0] using h
        exact At.round ⟨(k + 1, g + 1, false), by simp; omega⟩ (by simp; omega) (Weak.of_drop [1,3,4] 3 (by simp) (by simp) (by simp [hs, encI, rI]))
      · rename_i h
        have hs : numsTo l (k + 1) = numsTo l k := by
          simp only [numsTo, hx, show k - 1 = m from by omega, hy]
          simpa [hk0] using h
        exact At.round ⟨(k + 1, g, nl), by simp; omega⟩ (by simp; omega) (Weak.of_keep [1,3,4] (by simp [hs]))
  · have hs : True := trivial
    repeat' first | (with_reducible first | refine q01 ?_ | refine q02 ?_ | refine q03 ?_ | refine q04 ?_ | refine q05 ?_ | refine q06 ?_ | refine q07 (by decide) ?_ | refine q08 ?_ | refine q09 ?_ | refine q10 ?_ | refine q11 ?_ | refine q12 ?_ | refine q13 ?_ | refine q14 ?_ | refine q15 ?_ | refine q16 ?_ | refine q17 ?_ | refine And.intro (by omega) ?_) | (with_reducible refine At.fn_ret (by simp -dsimp [hlt, hs]; exact rfl) ?_) | (with_reducible refine At.fn_end (by simp -dsimp [hlt, hs]; exact rfl) ?_) | (with_reducible refine DT_regionE [0, 1, 2, 3, 4, 5, 10, 31] ?_; simp -dsimp [hlt, hs]) | (refine DT_cond rfl (fun h => ?_) (fun h => ?_) <;> (try simp only [nrm] at h) <;> (try exact Bool.noConfusion h)) | (with_reducible refine GStop_split ?_ ?_ <;> intro h <;> have h0 := h <;> (try simp only [nrm] at h) <;> (try exact Bool.noConfusion h) <;> have h2 := h <;> (try simp at h2) <;> (replace hs := And.intro h0 (And.intro h (And.intro h2 hs))) <;> simp -dsimp [h0, h, h2, hlt, hs]) | (with_reducible refine imp_At (fun h => ?_); (try simp only [List.map_eq_nil_iff] at h); (try subst h); try simp -dsimp [hlt, hs]) | with_reducible refine And.intro ?_ ?_
    all_goals try simp -dsimp [hlt, hs]
    all_goals try clear hs
    all_goals try omega
    have hkl : k = l.length := by simp at hk; omega
    subst hkl
    rfl
end Go.Proofs
namespace Go.Proofs
open Go Go.Ab
set_option linter.unusedSimpArgs false
variable {G : Nat → Option (List IC)}
theorem open1_c (y : Itm) (l : List Issue) (ds : List Int) (hs : ds.Pairwise (· ≤ ·)) (hl : ds.length < 1000000) (objs : List DObj) : DCall Tryd.prog G 144 [itmv y, .one (.im (.ip [bookI l ds]))] objs (fun rr objs' => rr = bv (!decide (y.drawing ∈ ds)) ∧ objs' = objs) := by
  refine DCall.frame ?_ (by simp) (by simp) objs
  refine DCall_intro Tryd.func144 rfl Tryd.ntmps144 (by simp) rfl ?_
  try simp only [iv]
  have c1 := has_c (G := G) l ds y.drawing hs hl
  have hs : True := trivial
  repeat' first | (with_reducible first | refine q01 ?_ | refine q02 ?_ | refine q03 ?_ | refine q04 ?_ | refine q05 ?_ | refine q06 ?_ | refine q07 (by decide) ?_ | refine q08 ?_ | refine q09 ?_ | refine q10 ?_ | refine q11 ?_ | refine q12 ?_ | refine q13 ?_ | refine q14 ?_ | refine q15 ?_ | refine q16 ?_ | refine q17 ?_ | refine And.intro (by omega) ?_) | (with_reducible refine At.fn_ret (by simp -dsimp [hs]; exact rfl) ?_) | (with_reducible refine At.fn_end (by simp -dsimp [hs]; exact rfl) ?_) | (refine CallE.pure (c1) ?_; try simp -dsimp [hs]) | (with_reducible refine DT_regionE [0, 1, 2, 3] ?_; simp -dsimp [hs]) | (refine DT_cond rfl (fun h => ?_) (fun h => ?_) <;> (try simp only [nrm] at h) <;> (try exact Bool.noConfusion h)) | (with_reducible refine GStop_split ?_ ?_ <;> intro h <;> have h0 := h <;> (try simp only [nrm] at h) <;> (try exact Bool.noConfusion h) <;> have h2 := h <;> (try simp at h2) <;> (replace hs := And.intro h0 (And.intro h (And.intro h2 hs))) <;> simp -dsimp [h0, h, h2, hs]) | (with_reducible refine imp_At (fun h => ?_); (try simp only [List.map_eq_nil_iff] at h); (try subst h); try simp -dsimp [hs]) | with_reducible refine And.intro ?_ ?_
  all_goals try simp -dsimp [hs]
  all_goals try clear hs
def issueOk (x : Issue) : Bool := ck1 x && ck2 x && itemsOk x.drawing 0 x.items && x.dims.all dimOk
def scanI : Option Issue → List Issue → Option (List Int)
  | _, [] => some []
  | some y, x :: r => if issueOk x = false then none else if y.drawing = x.drawing then (if y.letter + 1 ≠ x.letter ∨ y.kind ≠ x.kind then none else scanI (some x) r) else if y.drawing > x.drawing then none else if x.letter ≠ 1 then none else (scanI (some x) r).map (x.drawing :: ·)
  | none, x :: r => if issueOk x = false then none else if x.letter ≠ 1 then none else (scanI (some x) r).map (x.drawing :: ·)
theorem scan_bad' {x : Issue} (h : issueOk x = false) {p : Option Issue} {r : List Issue} : scanI p (x :: r) = none := by cases p <;> simp [scanI, h]
theorem scan_spec : ∀ (l : List Issue) (p : Option Issue) (ds : List Int), scanI p l = some ds →
    (∀ x ∈ l, issueOk x = true) ∧ (l.map (·.drawing)).Pairwise (· ≤ ·) ∧ (∀ y, p = some y → ∀ x ∈ l, y.drawing ≤ x.drawing) ∧ ds.Pairwise (· ≤ ·) ∧ (∀ d ∈ ds, ∃ x ∈ l, x.drawing = d)
  | [], p, ds, h => by
    have : ds = [] := by cases p <;> simp [scanI] at h <;> exact h
    subst this; simp
  | x :: r, p, ds, h => by
    have hok : issueOk x = true := by
      cases hx : issueOk x
      · rw [scan_bad' hx] at h; cases h
      · rfl
    have key : ∃ ds', scanI (some x) r = some ds' ∧ (ds = ds' ∨ ds = x.drawing :: ds') ∧ ∀ y, p = some y → y.drawing ≤ x.drawing := by
      cases p with
      | none =>
        simp only [scanI, hok] at h
        split at h
        · cases h
        · split at h
          · cases h
          · obtain ⟨ds', h1, h2⟩ := Option.map_eq_some_iff.1 h
            exact ⟨ds', h1, .inr h2.symm, by simp⟩
      | some y =>
        simp only [scanI, hok] at h
        split at h
        · cases h
        · split at h
          · rename_i hd
            split at h
            · cases h
            · exact ⟨ds, h, .inl rfl, fun y' e => by cases e; omega⟩
          · split at h
            · cases h
            · split at h
              · cases h
              · obtain ⟨ds', h1, h2⟩ := Option.map_eq_some_iff.1 h
                exact ⟨ds', h1, .inr h2.symm, fun y' e => by cases e; omega⟩
    obtain ⟨ds', h1, h2, h3⟩ := key
    obtain ⟨i1, i2, i3, i4, i5⟩ := scan_spec r (some x) ds' h1
    refine ⟨fun z hz => ?_, ?_, fun y hy z hz => ?_, ?_, fun d hd => ?_⟩
    · rcases List.mem_cons.1 hz with rfl | hz
      · exact hok
      · exact i1 z hz
    · rw [List.map_cons, List.pairwise_cons]
      refine ⟨fun d hd => ?_, i2⟩
      obtain ⟨z, hz, rfl⟩ := List.mem_map.1 hd
      exact i3 x rfl z hz
    · have := h3 y hy
      rcases List.mem_cons.1 hz with rfl | hz
      · exact this
      · have := i3 x rfl z hz; omega
    · rcases h2 with rfl | rfl
      · exact i4
      · rw [List.pairwise_cons]
        refine ⟨fun d hd => ?_, i4⟩
        obtain ⟨z, hz, rfl⟩ := i5 d hd
        exact i3 x rfl z hz
    · rcases h2 with rfl | rfl
      · obtain ⟨z, hz, e⟩ := i5 d hd
        exact ⟨z, by simp [hz], e⟩
      · rcases List.mem_cons.1 hd with rfl | hd
        · exact ⟨x, by simp, rfl⟩
        · obtain ⟨z, hz, e⟩ := i5 d hd
          exact ⟨z, by simp [hz], e⟩
def openE (l : List Issue) : Int × List Int :=
  if l.length < 1 ∨ 60 < l.length then (20, []) else match scanI none l with
  | none => (20, [])
  | some ds => if 20 < ds.length then (20, []) else if l.any (fun x => x.items.any fun y => !decide (y.drawing ∈ ds)) then (20, []) else
    if 0 < (depthsI l ds).2.length then (21, []) else if (depthsI l ds).1.any (fun p => decide (6 < p.2)) then (20, []) else (0, ds)
def openR (l : List Issue) : DV := if (openE l).1 = 0 then .one (.im (bookI l (openE l).2)) else .one (.im (.raw (.pointer none)))
end Go.Proofs
namespace Go.Proofs
open Go Go.Ab
/-! ### The numbers -/
def prevI (l : List Issue) : Nat → Option Issue
  | 0 => none
  | k + 1 => l[k]?
theorem scan_step {p : Option Issue} {x : Issue} {r : List Issue} {ds : List Int} (h : scanI p (x :: r) = some ds) :
    ∃ ds', scanI (some x) r = some ds' ∧ issueOk x = true ∧ ((∃ y, p = some y ∧ y.drawing = x.drawing ∧ ds = ds') ∨ ((∀ y, p = some y → y.drawing < x.drawing) ∧ ds = x.drawing :: ds')) := by
  have hok : issueOk x = true := by
    cases hx : issueOk x
    · rw [scan_bad' hx] at h; cases h
    · rfl
  cases p with
  | none =>
    simp only [scanI, hok] at h
    split at h
    · cases h
    · split at h
      · cases h
      · obtain ⟨ds', h1, h2⟩ := Option.map_eq_some_iff.1 h
        exact ⟨ds', h1, hok, .inr ⟨by simp, h2.symm⟩⟩
  | some y =>
    simp only [scanI, hok] at h
    split at h
    · cases h
    · split at h
      · rename_i hd
        split at h
        · cases h
        · exact ⟨ds, h, hok, .inl ⟨y, rfl, hd, rfl⟩⟩
      · split at h
        · cases h
        · split at h
          · cases h
          · obtain ⟨ds', h1, h2⟩ := Option.map_eq_some_iff.1 h
            exact ⟨ds', h1, hok, .inr ⟨fun y' e => by cases e; omega, h2.symm⟩⟩
theorem scan_to {l : List Issue} {ds : List Int} (h : scanI none l = some ds) : ∀ k, k ≤ l.length → ∃ ds', scanI (prevI l k) (l.drop k) = some ds' ∧ ds = numsTo l k ++ ds'
  | 0, _ => ⟨ds, by simpa [prevI] using h, by simp [numsTo]⟩
  | k + 1, hk => by
    obtain ⟨ds', h1, h2⟩ := scan_to h k (by omega)
    have hlt : k < l.length := by omega
    have hx : l[k]? = some l[k] := by simp [hlt]
    rw [List.drop_eq_getElem_cons hlt] at h1
    obtain ⟨ds'', h3, _, h4⟩ := scan_step h1
    refine ⟨ds'', by simpa [prevI, hx] using h3, ?_⟩
    rw [h2]
    simp only [numsTo, hx, List.append_assoc]
    congr 1
    rcases h4 with ⟨y, h5, h6, rfl⟩ | ⟨h5, rfl⟩
    · cases k with
      | zero => simp [prevI] at h5
      | succ m => simp only [prevI] at h5; simp [h5, h6]
    · cases k with
      | zero => simp
      | succ m =>
        have hy : l[m]? = some l[m] := by simp
        have := h5 l[m] (by simp [prevI, hy])
        rw [if_pos (.inr (by simp only [Nat.add_sub_cancel, hy, Option.map_some, ne_eq, Option.some.injEq]; omega))]; rfl
theorem scan_nums {l : List Issue} {ds : List Int} (h : scanI none l = some ds) : ds = nums l := by
  obtain ⟨ds', h1, h2⟩ := scan_to h l.length (Nat.le_refl _)
  rw [List.drop_length] at h1
  have : ds' = [] := by
    cases hp : prevI l l.length <;> rw [hp] at h1 <;> simp [scanI] at h1 <;> exact h1
  rw [h2, this, List.append_nil]; rfl
theorem scan_lt : ∀ (l : List Issue) (p : Option Issue) (ds : List Int), scanI p l = some ds → ds.Pairwise (· < ·) ∧ ∀ y, p = some y → ∀ d ∈ ds, y.drawing < d
  | [], p, ds, h => by
    have : ds = [] := by cases p <;> simp [scanI] at h <;> exact h
    subst this; simp
  | x :: r, p, ds, h => by
    obtain ⟨ds', h1, _, h2⟩ := scan_step h
    obtain ⟨i1, i2⟩ := scan_lt r (some x) ds' h1
    rcases h2 with ⟨y, rfl, h3, rfl⟩ | ⟨h3, rfl⟩
    · exact ⟨i1, fun y' e d hd => by cases e; rw [h3]; exact i2 x rfl d hd⟩
    · refine ⟨List.pairwise_cons.2 ⟨i2 x rfl, i1⟩, fun y e d hd => ?_⟩
      have := h3 y e
      rcases List.mem_cons.1 hd with rfl | hd
      · exact this
      · have := i2 x rfl d hd; omega
theorem scan_mem {l : List Issue} {ds : List Int} (h : scanI none l = some ds) : ∀ (p : Option Issue) (r : List Issue) (ds : List Int), scanI p r = some ds → ∀ x ∈ r, x.drawing ∈ ds ∨ ∃ y, p = some y ∧ y.drawing = x.drawing := by
  intro p r
  induction r generalizing p with
  | nil => intro ds _ x hx; cases hx
  | cons z r ih =>
    intro ds hds x hx
    obtain ⟨ds', h1, _, h2⟩ := scan_step hds
    have key : x.drawing ∈ ds' ∨ z.drawing = x.drawing := by
      rcases List.mem_cons.1 hx with rfl | hx
      · exact .inr rfl
      · rcases ih (some z) ds' h1 x hx with h | ⟨y, hy, he⟩
        · exact .inl h
        · cases hy; exact .inr he
    rcases h2 with ⟨y, rfl, h3, rfl⟩ | ⟨_, rfl⟩
    · rcases key with h | h
      · exact .inl h
      · exact .inr ⟨y, rfl, by omega⟩
    · rcases key with h | h
      · exact .inl (by simp [h])
      · exact .inl (by simp [h])
/-- What a register that is listed well has. -/
theorem scan_all {l : List Issue} {ds : List Int} (h : scanI none l = some ds) : ds = nums l ∧ ds.Pairwise (· < ·) ∧ (∀ x ∈ l, x.drawing ∈ ds) ∧ (∀ x ∈ l, issueOk x = true) ∧ (l.map (·.drawing)).Pairwise (· ≤ ·) := by
  obtain ⟨a1, a2, _, _, _⟩ := scan_spec l none ds h
  refine ⟨scan_nums h, (scan_lt l none ds h).1, fun x hx => ?_, a1, a2⟩
  rcases scan_mem h none l ds h x hx with h | ⟨y, hy, _⟩
  · exact h
  · cases hy
/-- The reference: all is valid but for circles and chains. -/
def listedI (l : List Issue) : Bool := decide (1 ≤ l.length ∧ l.length ≤ 60) && (scanI none l).isSome && l.all (fun x => x.items.all fun y => decide (y.drawing ∈ nums l)) && decide ((nums l).length ≤ 20)
def depthsL (l : List Issue) : List Int := (nums l).map (Rr l ((nums l).length + 1))
def mostL (l : List Int) : Int := l.foldl max 0
def checkR (l : List Issue) : Int := if listedI l = false then 20 else if mostL (depthsL l) > (depthsL l).length then 21 else if mostL (depthsL l) > 6 then 20 else 0
theorem most_lt (f : Int → Int) (l : List Int) (b : Int) (hb : 0 ≤ b) : mostL (l.map f) > b ↔ ∃ n ∈ l, f n > b := by
  have : mostL (l.map f) = mx f l := by simp [mostL, mx, List.foldl_map]
  rw [this]
  constructor
  · intro h
    refine Classical.byContradiction fun hno => ?_
    have := mx_le (f := f) (l := l) hb fun c hc => Int.not_lt.1 fun hlt => hno ⟨c, hc, hlt⟩
    omega
  · rintro ⟨n, hn, h⟩
    have := le_mx (f := f) hn; omega
theorem open_check (l : List Issue) : (openE l).1 = checkR l ∧ ((openE l).1 = 0 → (openE l).2 = nums l ∧ listedI l = true) := by
  unfold openE checkR
  by_cases hr : l.length < 1 ∨ 60 < l.length
  · have : listedI l = false := by simp [listedI]; intro h1 h2; omega
    rw [if_pos hr, if_pos this]; exact ⟨rfl, by simp⟩
  rw [if_neg hr]
  cases hs : scanI none l with
  | none =>
    have : listedI l = false := by simp [listedI, hs]
    rw [if_pos this]; exact ⟨rfl, by simp⟩
  | some ds =>
    obtain ⟨h1, h2, h3, h4, h5⟩ := scan_all hs
    simp only
    by_cases h20 : 20 < ds.length
    · have : listedI l = false := by simp [listedI, ← h1]; intro _ _ _; omega
      rw [if_pos h20, if_pos this]; exact ⟨rfl, by simp⟩
    rw [if_neg h20]
    by_cases hit : l.any (fun x => x.items.any fun y => !decide (y.drawing ∈ ds)) = true
    · have : listedI l = false := by
        simp only [listedI, ← h1]
        have : l.all (fun x => x.items.all fun y => decide (y.drawing ∈ ds)) = false := by
          rw [← Bool.not_eq_true, List.all_eq_true]
          intro hall
          obtain ⟨x, hx, hy⟩ := List.any_eq_true.1 hit
          obtain ⟨y, hy, hn⟩ := List.any_eq_true.1 hy
          have := List.all_eq_true.1 (hall x hx) y hy
          simp at hn this; exact hn this
        simp [this]
      rw [if_pos hit, if_pos this]; exact ⟨rfl, by simp⟩
    rw [if_neg hit]
    have hall : ∀ x ∈ l, ∀ y ∈ x.items, y.drawing ∈ ds := fun x hx y hy => by
      refine Classical.byContradiction fun hn => hit ?_
      exact List.any_eq_true.2 ⟨x, hx, List.any_eq_true.2 ⟨y, hy, by simpa using hn⟩⟩
    have hli : listedI l = true := by
      simp only [listedI, ← h1, hs, Bool.and_eq_true, decide_eq_true_eq, List.all_eq_true]
      exact ⟨⟨⟨by omega, rfl⟩, fun x hx y hy => hall x hx y hy⟩, by omega⟩
    have hch : ∀ n ∈ ds, ∀ c ∈ chI l n, c ∈ ds := fun n _ c hc => by
      simp only [chI, List.mem_flatMap, List.mem_map] at hc
      obtain ⟨x, hx, y, hy, rfl⟩ := hc
      exact hall x ((List.mem_filter.1 hx).1) y hy
    have hnd : ds.Nodup := h2.imp fun h => Int.ne_of_lt h
    obtain ⟨d1, d2⟩ := depthsI_spec hnd hch
    have e1 : mostL (depthsL l) > (depthsL l).length ↔ 0 < (depthsI l ds).2.length := by
      rw [d1]; simp only [depthsL, ← h1, List.length_map]
      exact most_lt _ ds _ (by omega)
    rw [if_neg (by simp [hli] : ¬ listedI l = false)]
    by_cases hc : 0 < (depthsI l ds).2.length
    · rw [if_pos hc, if_pos (e1.2 hc)]; exact ⟨rfl, by simp⟩
    rw [if_neg hc, if_neg fun h => hc (e1.1 h)]
    obtain ⟨_, d4⟩ := d2 (by omega)
    have e2 : mostL (depthsL l) > 6 ↔ (depthsI l ds).1.any (fun p => decide (6 < p.2)) = true := by
      rw [d4]; simp only [depthsL, ← h1]
      exact most_lt _ ds 6 (by omega)
    by_cases h6 : (depthsI l ds).1.any (fun p => decide (6 < p.2)) = true
    · rw [if_pos h6, if_pos (e2.2 h6)]; exact ⟨rfl, by simp⟩
    · rw [if_neg h6, if_neg fun h => h6 (e2.1 h)]; exact ⟨rfl, fun _ => ⟨h1, hli⟩⟩
end Go.Proofs
