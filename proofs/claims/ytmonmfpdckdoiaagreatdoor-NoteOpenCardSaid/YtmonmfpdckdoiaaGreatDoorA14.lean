/- Part 14 of the proof whose last text closes the card: laws and walks that hold without conditions beyond those that each theorem names. -/
import Derived.Test.YtmonmfpdckdoiaaGreatDoorA08
import Derived.Test.YtmonmfpdckdoiaaGreatDoorA12
import Derived.Test.YtmonmfpdckdoiaaGreatDoorA13
set_option linter.all false
set_option linter.deprecated false
namespace Go.Proofs
open Go Go.Ab
set_option linter.unusedSimpArgs false
variable {G : Nat → Option (List IC)}
theorem scan_iff0 (x : Issue) (r : List Issue) : (scanI none (x :: r)).isSome = true ↔ (issueOk x = true ∧ x.letter = 1) ∧ (scanI (some x) r).isSome = true := by
  simp only [scanI]
  by_cases h1 : issueOk x = false
  · simp [h1]
  · by_cases h2 : x.letter = 1
    · simp [h1, h2]
    · simp [h1, h2]
theorem scan_iff1 (y x : Issue) (r : List Issue) : (scanI (some y) (x :: r)).isSome = true ↔ (issueOk x = true ∧ (y.drawing = x.drawing ∧ y.letter + 1 = x.letter ∧ y.kind = x.kind ∨ y.drawing < x.drawing ∧ x.letter = 1)) ∧ (scanI (some x) r).isSome = true := by
  simp only [scanI]
  by_cases h1 : issueOk x = false
  · simp [h1]
  · have h1' : issueOk x = true := by simpa using h1
    by_cases hd : y.drawing = x.drawing
    · have hlt : ¬ x.drawing < x.drawing := by omega
      by_cases h2 : y.letter + 1 = x.letter <;> by_cases h3 : y.kind = x.kind <;> simp [h1', hd, h2, h3]
    · by_cases hg : y.drawing > x.drawing
      · have : ¬ y.drawing < x.drawing := by omega
        simp [h1', hd, hg, this]
      · have : y.drawing < x.drawing := by omega
        by_cases h2 : x.letter = 1 <;> simp [h1', hd, hg, h2, this]
theorem idx_neg {l : List Int} {x : Int} (h : x ∉ l) : idx l x = -1 := idx_no fun j _ he => h (List.mem_of_getElem? he)
theorem idx_nonneg {l : List Int} {x : Int} (h : x ∈ l) : 0 ≤ idx l x := by
  unfold idx
  cases hh : l.idxOf? x with
  | none =>
    rw [List.idxOf?, List.findIdx?_eq_none_iff] at hh
    have := hh x h; simp at this
  | some i => simp
theorem idx_mem (l : List Int) (x : Int) : idx l x < 0 ↔ x ∉ l := by
  constructor
  · intro h hm; have := idx_nonneg hm; omega
  · intro h; rw [idx_neg h]; omega
theorem listed_false1 {l : List Issue} (h : (scanI none l).isSome = false) : listedI l = false := by simp [listedI, h]
set_option maxHeartbeats 2000000 in
theorem listed_c (l : List Issue) (hs : SmallR l) (objs : List DObj) : DCall Tryz.prog G 119 [regv l] objs (fun rr objs' => rr = bv (listedI l) ∧ objs' = objs) := by
  refine DCall.frame ?_ (by simp) (by simp) objs
  refine DCall_intro Tryz.func119 rfl Tryz.ntmps119 (by simp) rfl ?_
  try simp only [regv]
  have hl80 := hs.1
  by_cases hrange : 1 ≤ l.length ∧ l.length ≤ 60
  · have d1 : decide ((1 : Int) ≤ (l.length : Int)) = true := by simp; omega
    have d2 : decide ((l.length : Int) ≤ 60) = true := by simp; omega
    have c0 := within_c (G := G) (l.length : Int) 1 60
    rw [d1, d2] at c0
    have hs : True := trivial
    repeat' first | (with_reducible first | refine q01 ?_ | refine q11 ?_ | refine q12 ?_ | refine q14 ?_) | (refine CallE.pure (c0) ?_; try simp -dsimp [hs]) | (with_reducible refine DT_regionE [0, 1, 2, 3, 4, 5, 6, 7, 8, 13, 18, 28, 31, 38, 44, 52, 53, 73, 84, 99] ?_; simp -dsimp [hs]) | (refine DT_cond rfl (fun h => ?_) (fun h => ?_) <;> (try simp only [nrm] at h) <;> (try exact Bool.noConfusion h))
    all_goals try simp -dsimp [hs]
    all_goals try clear hs
    refine DT_loop (ι := { i : Nat // i ≤ l.length ∧ (scanI none l).isSome = (scanI (prevI l i) (l.drop i)).isSome ∧ ∀ x ∈ l.take i, issueOk x = true }) (fun p => ⟨103, [(1, .one (.ptr 0 0)), (2, bv false), (3, iv (p.1 : Int))], [.row [.im (.sl (l.map encIssue))]]⟩) (fun p => l.length - p.1) ⟨0, by simp [prevI]⟩ (Weak.of_keep [1,2,3] (by simp)) ?_
    rintro ⟨i, hi, hscan, hok⟩
    simp only [iv]
    by_cases hlt : i < l.length
    · have hx : l[i]? = some l[i] := by simp [hlt]
      have hw : IntKind.i64.wrap ((i : Int) + 1) = ((i + 1 : Nat) : Int) := i64w (by omega) (by omega)
      have hsm := hs.2 l[i] (List.getElem_mem hlt)
      have c1 := issue_c (G := G) l[i] ⟨hsm.1, hsm.2.1⟩ (by omega) (by omega)
      rw [List.drop_eq_getElem_cons hlt] at hscan
      have hnext : prevI l (i + 1) = some l[i] := by simp [prevI]
      cases hq : issueOk l[i]
      · rw [hq] at c1
        have hf : listedI l = false := listed_false1 (by
          rw [hscan]
          cases prevI l i with
          | none => exact false_step (scan_iff0 l[i] _) (by simp [hq])
          | some y => exact false_step (scan_iff1 y l[i] _) (by simp [hq]))
        have hs : True := trivial
        repeat' first | (with_reducible first | refine q01 ?_ | refine q02 ?_ | refine q05 ?_ | refine q11 ?_ | refine q12 ?_ | refine q14 ?_ | refine q17 ?_) | (with_reducible refine At.fn_ret (by simp -dsimp [hx, hlt, hs]; exact rfl) ?_) | (refine CallE.pure (c1) ?_; try simp -dsimp [hx, hlt, hs]) | (with_reducible refine DT_regionE [0, 1, 2, 3, 4, 5, 6, 7, 8, 13, 18, 28, 31, 38, 44, 52, 53, 73, 84, 99] ?_; simp -dsimp [hx, hlt, hs]) | (refine DT_cond rfl (fun h => ?_) (fun h => ?_) <;> (try simp only [nrm] at h) <;> (try exact Bool.noConfusion h))
        all_goals try simp -dsimp [hx, hlt, hs]
        all_goals try clear hs
        simp [hf]
      · rw [hq] at c1
        have hokn : ∀ x ∈ l.take (i + 1), issueOk x = true := by
          rw [List.take_succ_eq_append_getElem hlt]
          intro x hx
          rcases List.mem_append.1 hx with h | h
          · exact hok x h
          · simp at h; rw [h]; exact hq
        have hdr : 1 ≤ l[i].drawing := by
          simp only [issueOk, Bool.and_assoc] at hq
          rw [← Bool.and_assoc, Bool.and_eq_true] at hq
          have := (ck12_iff _).1 hq.1; omega
        by_cases hi0 : i = 0
        · subst hi0
          have hst := scan_iff0 l[0] (l.drop 1)
          simp only [prevI] at hscan
          rw [Nat.zero_add] at hscan
          rw [← hscan] at hst
          have hs : True := trivial
          repeat' first | (with_reducible first | refine q01 ?_ | refine q02 ?_ | refine q04 ?_ | refine q05 ?_ | refine q11 ?_ | refine q12 ?_ | refine q14 ?_ | refine q17 ?_) | (with_reducible refine At.fn_ret (by simp -dsimp [hx, hlt, hw, hs]; exact rfl) ?_) | (refine CallE.pure (c1) ?_; try simp -dsimp [hx, hlt, hw, hs]) | (with_reducible refine DT_regionE [0, 1, 2, 3, 4, 5, 6, 7, 8, 13, 18, 28, 31, 38, 44, 52, 53, 73, 84, 99] ?_; simp -dsimp [hx, hlt, hw, hs]) | (refine DT_cond rfl (fun h => ?_) (fun h => ?_) <;> (try simp only [nrm] at h) <;> (try exact Bool.noConfusion h)) | (with_reducible refine GStop_split ?_ ?_ <;> intro h <;> have h0 := h <;> (try simp only [nrm] at h) <;> (try exact Bool.noConfusion h) <;> have h2 := h <;> (try simp at h2) <;> (replace hs := And.intro h0 (And.intro h (And.intro h2 hs))) <;> simp -dsimp [h0, h, h2, hx, hlt, hw, hs])
          all_goals try simp -dsimp [hx, hlt, hw, hs]
          all_goals try clear hs
          all_goals first
            | (exfalso; omega)
            | (have hf := listed_false1 (false_step hst (by omega)); simp [hf]; done)
            | exact At.round ⟨1, by omega, by rw [hnext]; exact eq_of_step hst ⟨hq, by omega⟩, hokn⟩ (by simp; omega) (Weak.of_drop [1,2,3] 1 (by simp) (by simp) (by simp; exact i64w (by omega) (by omega)))
        · obtain ⟨m, rfl⟩ : ∃ m, i = m + 1 := ⟨i - 1, by omega⟩
          have hy : l[m]? = some l[m] := by simp
          have hw1 : IntKind.i64.wrap (((m + 1 : Nat) : Int) - 1) = m := i64w (by omega) (by omega) |>.trans (by omega)
          have hw2 : IntKind.i64.wrap (m : Int) = m := i64w (by omega) (by omega)
          have hoky := hok l[m] (List.mem_take_iff_getElem.2 ⟨m, by omega, rfl⟩)
          have hlet : 1 ≤ l[m].letter ∧ l[m].letter ≤ 8 := by simp [issueOk, ck1] at hoky; omega
          have hwl : IntKind.i64.wrap (l[m].letter + 1) = l[m].letter + 1 := i64w (by omega) (by omega)
          have hst := scan_iff1 l[m] l[m + 1] (l.drop (m + 1 + 1))
          simp only [prevI, hy] at hscan
          rw [← hscan] at hst
          have hpos : (0 : Int) < (m : Int) + 1 := by omega
          have hlt2 : (m : Int) + 1 < (l.length : Int) := by omega
          have hge : (0 : Int) ≤ (m : Int) + 1 := by omega
          have hs : True := trivial
          repeat' first | (with_reducible first | refine q01 ?_ | refine q02 ?_ | refine q04 ?_ | refine q05 ?_ | refine q11 ?_ | refine q12 ?_ | refine q14 ?_ | refine q17 ?_) | (with_reducible refine At.fn_ret (by simp -dsimp [hge, hx, hlt, hlt2, hw, hy, hw1, hw2, hwl, hpos, hs]; exact rfl) ?_) | (refine CallE.pure (c1) ?_; try simp -dsimp [hge, hx, hlt, hlt2, hw, hy, hw1, hw2, hwl, hpos, hs]) | (with_reducible refine DT_regionE [0, 1, 2, 3, 4, 5, 6, 7, 8, 13, 18, 28, 31, 38, 44, 52, 53, 73, 84, 99] ?_; simp -dsimp [hge, hx, hlt, hlt2, hw, hy, hw1, hw2, hwl, hpos, hs]) | (refine DT_cond rfl (fun h => ?_) (fun h => ?_) <;> (try simp only [nrm] at h) <;> (try exact Bool.noConfusion h)) | (with_reducible refine GStop_split ?_ ?_ <;> intro h <;> have h0 := h <;> (try simp only [nrm] at h) <;> (try exact Bool.noConfusion h) <;> have h2 := h <;> (try simp at h2) <;> (replace hs := And.intro h0 (And.intro h (And.intro h2 hs))) <;> simp -dsimp [h0, h, h2, hge, hx, hlt, hlt2, hw, hy, hw1, hw2, hwl, hpos, hs])
          all_goals try simp -dsimp [hge, hx, hlt, hlt2, hw, hy, hw1, hw2, hwl, hpos, hs]
          all_goals try clear hs
          all_goals first
            | (exfalso; omega)
            | (have hf := listed_false1 (false_step hst (by omega)); simp [hf]; done)
            | exact At.round ⟨m + 1 + 1, by omega, by rw [hnext]; exact eq_of_step hst ⟨hq, by omega⟩, hokn⟩ (by simp; omega) (Weak.of_drop [1,2,3] 1 (by simp) (by simp) (by simp; try exact i64w (by omega) (by omega)))
    · have hsome : (scanI none l).isSome = true := by
        rw [hscan, List.drop_eq_nil_of_le (by omega)]
        cases prevI l i <;> rfl
      have c2 := numbers_c (G := G) l (by omega)
      have hE : listedI l = (l.all (fun x => x.items.all fun y => decide (y.drawing ∈ nums l)) && decide ((nums l).length ≤ 20)) := by
        simp [listedI, hsome, hrange]
      have hnl : (nums l).length ≤ l.length := numsTo_length l l.length
      generalize nums l = ns at *
      have hs : True := trivial
      repeat' first | (with_reducible first | refine q01 ?_ | refine q03 ?_ | refine q06 ?_ | refine q11 ?_ | refine q12 ?_ | refine q16 ?_) | (refine CallE.pure (c2) ?_; try simp -dsimp [hlt, hs]) | (with_reducible refine DT_regionE [0, 1, 2, 3, 4, 5, 6, 7, 8, 13, 18, 28, 31, 38, 44, 52, 53, 73, 84, 99] ?_; simp -dsimp [hlt, hs]) | (refine DT_cond rfl (fun h => ?_) (fun h => ?_) <;> (try simp only [nrm] at h) <;> (try exact Bool.noConfusion h))
      all_goals try simp -dsimp [hlt, hs]
      all_goals try clear hs
      refine DT_loop (ι := { i : Nat // i ≤ l.length ∧ l.all (fun x => x.items.all fun y => decide (y.drawing ∈ ns)) = (l.drop i).all (fun x => x.items.all fun y => decide (y.drawing ∈ ns)) }) (fun p => ⟨103, [(1, .one (.ptr 0 0)), (2, bv false), (6, isv ns), (7, iv (p.1 : Int))], [.row [.im (.sl (l.map encIssue))]]⟩) (fun p => l.length - p.1) ⟨0, by simp⟩ (Weak.of_drop [1,2,6,7] 1 (by simp) (by simp) (by simp)) ?_
      clear hscan hok
      rintro ⟨k, hk, hall⟩
      simp only [iv, isv]
      by_cases hlk : k < l.length
      · have hx : l[k]? = some l[k] := by simp [hlk]
        have hw : IntKind.i64.wrap ((k : Int) + 1) = ((k + 1 : Nat) : Int) := i64w (by omega) (by omega)
        have hst := all_step hlk hall
        have hsm := hs.2 l[k] (List.getElem_mem hlk)
        have hs : True := trivial
        repeat' first | (with_reducible first | refine q01 ?_ | refine q11 ?_ | refine q12 ?_ | refine q14 ?_) | (with_reducible refine DT_regionE [0, 1, 2, 3, 4, 5, 6, 7, 8, 13, 18, 28, 31, 38, 44, 52, 53, 73, 84, 99] ?_; simp -dsimp [hx, hlk, hw, hs]) | (refine DT_cond rfl (fun h => ?_) (fun h => ?_) <;> (try simp only [nrm] at h) <;> (try exact Bool.noConfusion h))
        all_goals try simp -dsimp [hx, hlk, hw, hs]
        all_goals try clear hs
        refine DT_loop (ι := { u : Nat // u ≤ l[k].items.length ∧ l[k].items.all (fun y => decide (y.drawing ∈ ns)) = (l[k].items.drop u).all (fun y => decide (y.drawing ∈ ns)) }) (fun p => ⟨103, [(1, .one (.ptr 0 0)), (2, bv false), (6, isv ns), (7, iv (k : Int)), (8, iv (p.1 : Int))], [.row [.im (.sl (l.map encIssue))]]⟩) (fun p => l[k].items.length - p.1) ⟨0, by simp⟩ (Weak.of_keep [1,2,6,7,8] (by simp)) ?_
        rintro ⟨u, hu, hall2⟩
        simp only [iv, isv]
        by_cases hlu : u < l[k].items.length
        · have hy : l[k].items[u]? = some l[k].items[u] := by simp [hlu]
          have hw2 : IntKind.i64.wrap ((u : Int) + 1) = ((u + 1 : Nat) : Int) := i64w (by omega) (by omega)
          have c3 := index_c (G := G) ns l[k].items[u].drawing (by omega)
          have hm := idx_mem ns l[k].items[u].drawing
          have hst2 := all_step hlu hall2
          generalize idx ns l[k].items[u].drawing = z at c3 hm
          have hs : True := trivial
          repeat' first | (with_reducible first | refine q01 ?_ | refine q02 ?_ | refine q04 ?_ | refine q05 ?_ | refine q11 ?_ | refine q12 ?_ | refine q14 ?_ | refine q17 ?_) | (with_reducible refine At.fn_ret (by simp -dsimp [hx, hlk, hy, hlu, hw2, hs]; exact rfl) ?_) | (refine CallE.pure (c3) ?_; try simp -dsimp [hx, hlk, hy, hlu, hw2, hs]) | (with_reducible refine DT_regionE [0, 1, 2, 3, 4, 5, 6, 7, 8, 13, 18, 28, 31, 38, 44, 52, 53, 73, 84, 99] ?_; simp -dsimp [hx, hlk, hy, hlu, hw2, hs]) | (refine DT_cond rfl (fun h => ?_) (fun h => ?_) <;> (try simp only [nrm] at h) <;> (try exact Bool.noConfusion h))
          all_goals try simp -dsimp [hx, hlk, hy, hlu, hw2, hs]
          all_goals try clear hs
          · have hn := hm.1 ‹z < 0›
            have h1 := false_step hst2 (by simpa using hn)
            have h2 := false_step hst (by rw [h1]; exact Bool.false_ne_true)
            rw [hE, h2]; rfl
          · have hn : l[k].items[u].drawing ∈ ns := Classical.byContradiction fun hn => absurd (hm.2 hn) ‹_›
            exact At.round ⟨u + 1, by omega, eq_of_step hst2 (by simpa using hn)⟩ (by simp; omega) (Weak.of_keep [1,2,6,7,8] (by simp))
        · have h1 : l[k].items.all (fun y => decide (y.drawing ∈ ns)) = true := by rw [hall2, List.drop_eq_nil_of_le (by omega)]; rfl
          have hs : True := trivial
          repeat' first | (with_reducible first | refine q01 ?_ | refine q03 ?_ | refine q04 ?_ | refine q06 ?_ | refine q11 ?_ | refine q16 ?_) | (with_reducible refine DT_regionE [0, 1, 2, 3, 4, 5, 6, 7, 8, 13, 18, 28, 31, 38, 44, 52, 53, 73, 84, 99] ?_; simp -dsimp [hx, hlk, hlu, hw, hs]) | (refine DT_cond rfl (fun h => ?_) (fun h => ?_) <;> (try simp only [nrm] at h) <;> (try exact Bool.noConfusion h))
          all_goals try simp -dsimp [hx, hlk, hlu, hw, hs]
          all_goals try clear hs
          exact At.round ⟨k + 1, by omega, eq_of_step hst h1⟩ (by simp; omega) (Weak.of_keep [1,2,6,7] (by simp))
      · have h1 : l.all (fun x => x.items.all fun y => decide (y.drawing ∈ ns)) = true := by rw [hall, List.drop_eq_nil_of_le (by omega)]; rfl
        rw [h1, Bool.true_and] at hE
        have hs : True := trivial
        repeat' first | (with_reducible first | refine q01 ?_ | refine q03 ?_ | refine q06 ?_ | refine q11 ?_ | refine q16 ?_ | refine q17 ?_) | (with_reducible refine At.fn_ret (by simp -dsimp [hlk, hs]; exact rfl) ?_) | (with_reducible refine DT_regionE [0, 1, 2, 3, 4, 5, 6, 7, 8, 13, 18, 28, 31, 38, 44, 52, 53, 73, 84, 99] ?_; simp -dsimp [hlk, hs]) | (refine DT_cond rfl (fun h => ?_) (fun h => ?_) <;> (try simp only [nrm] at h) <;> (try exact Bool.noConfusion h))
        all_goals try simp -dsimp [hlk, hs]
        all_goals try clear hs
        rw [hE]; simp; omega
  · have hf : listedI l = false := by simp only [listedI]; rw [decide_eq_false hrange]; rfl
    have c0 := within_c (G := G) (l.length : Int) 1 60
    have hd : (decide ((1 : Int) ≤ (l.length : Int)) && decide ((l.length : Int) ≤ 60)) = false := by simp; omega
    rw [hd] at c0
    have hs : True := trivial
    repeat' first | (with_reducible first | refine q01 ?_ | refine q02 ?_ | refine q11 ?_ | refine q17 ?_) | (with_reducible refine At.fn_ret (by simp -dsimp [hs]; exact rfl) ?_) | (refine CallE.pure (c0) ?_; try simp -dsimp [hs]) | (with_reducible refine DT_regionE [0, 1, 2, 3, 4, 5, 6, 7, 8, 13, 18, 28, 31, 38, 44, 52, 53, 73, 84, 99] ?_; simp -dsimp [hs]) | (refine DT_cond rfl (fun h => ?_) (fun h => ?_) <;> (try simp only [nrm] at h) <;> (try exact Bool.noConfusion h))
    all_goals try simp -dsimp [hs]
    all_goals try clear hs
    simp [hf]
end Go.Proofs
namespace Go.Proofs
open Go Go.Ab
set_option linter.unusedSimpArgs false
variable {G : Nat → Option (List IC)}
theorem mostL_drop {l : List Int} {k : Nat} (hlt : k < l.length) (a : Int) (h : mostL l = (l.drop k).foldl max a) : mostL l = (l.drop (k + 1)).foldl max (max a l[k]) := by
  rw [h, List.drop_eq_getElem_cons hlt, List.foldl_cons]
set_option maxHeartbeats 1000000 in
theorem rcheck_c (l : List Issue) (hs : SmallR l) (objs : List DObj) : DCall Tryz.prog G 86 [regv l] objs (fun rr objs' => rr = iv (checkR l) ∧ objs' = objs) := by
  refine DCall.frame ?_ (by simp) (by simp) objs
  refine DCall_intro Tryz.func86 rfl Tryz.ntmps86 (by simp) rfl ?_
  try simp only [regv]
  have c1 := listed_c (G := G) l hs
  cases hL : listedI l
  · rw [hL] at c1
    have hs : True := trivial
    repeat' first | (with_reducible first | refine q01 ?_ | refine q02 ?_ | refine q11 ?_ | refine q17 ?_) | (with_reducible refine At.fn_ret (by simp -dsimp [hs]; exact rfl) ?_) | (refine CallE.pure (c1) ?_; try simp -dsimp [hs]) | (with_reducible refine DT_regionE [0, 1, 2, 3, 4, 5, 8, 14, 23, 28] ?_; simp -dsimp [hs]) | (refine DT_cond rfl (fun h => ?_) (fun h => ?_) <;> (try simp only [nrm] at h) <;> (try exact Bool.noConfusion h))
    all_goals try simp -dsimp [hs]
    all_goals try clear hs
    simp [checkR, hL]
  · rw [hL] at c1
    have c2 := rdepths_c (G := G) l hL
    have hlen : (depthsL l).length ≤ 80 := by
      have := numsTo_length l l.length
      have := hs.1
      simp only [depthsL, List.length_map, nums]; omega
    have hE : checkR l = if mostL (depthsL l) > (depthsL l).length then 21 else if mostL (depthsL l) > 6 then 20 else 0 := by simp [checkR, hL]
    generalize depthsL l = D at c2 hE hlen
    have hs : True := trivial
    repeat' first | (with_reducible first | refine q01 ?_ | refine q11 ?_ | refine q12 ?_ | refine q14 ?_) | (refine CallE.pure (c1) ?_; try simp -dsimp [hs]) | (refine CallE.pure (c2) ?_; try simp -dsimp [hs]) | (with_reducible refine DT_regionE [0, 1, 2, 3, 4, 5, 8, 14, 23, 28] ?_; simp -dsimp [hs]) | (refine DT_cond rfl (fun h => ?_) (fun h => ?_) <;> (try simp only [nrm] at h) <;> (try exact Bool.noConfusion h))
    all_goals try simp -dsimp [hs]
    all_goals try clear hs
    refine DT_loop (ι := { p : Nat × Int // p.1 ≤ D.length ∧ mostL D = (D.drop p.1).foldl max p.2 }) (fun p => ⟨31, [(1, .one (.ptr 0 0)), (2, iv 0), (3, isv D), (4, iv p.1.2), (5, iv (p.1.1 : Int))], [.row [.im (.sl (l.map encIssue))]]⟩) (fun p => D.length - p.1.1) ⟨(0, 0), by simp [mostL]⟩ (Weak.of_keep [1,2,3,4,5] (by simp)) ?_
    rintro ⟨⟨k, a⟩, hk, ha⟩
    simp only at hk ha
    simp only [iv, isv]
    by_cases hlt : k < D.length
    · have hx : D[k]? = some D[k] := by simp [hlt]
      have hw : IntKind.i64.wrap ((k : Int) + 1) = ((k + 1 : Nat) : Int) := i64w (by omega) (by omega)
      have hs : True := trivial
      repeat' first | (with_reducible first | refine q01 ?_ | refine q04 ?_ | refine q11 ?_ | refine q12 ?_ | refine q14 ?_) | (with_reducible refine DT_regionE [0, 1, 2, 3, 4, 5, 8, 14, 23, 28] ?_; simp -dsimp [hx, hw, hlt, hs]) | (refine DT_cond rfl (fun h => ?_) (fun h => ?_) <;> (try simp only [nrm] at h) <;> (try exact Bool.noConfusion h))
      all_goals try simp -dsimp [hx, hw, hlt, hs]
      all_goals try clear hs
      exact At.round ⟨(k + 1, max a D[k]), by omega, mostL_drop hlt a ha⟩ (by simp; omega) (Weak.of_keep [1,2,3,4,5] (by simp))
    · have ha' : mostL D = a := by rw [ha, List.drop_eq_nil_of_le (by omega)]; rfl
      rw [ha'] at hE
      have hs : True := trivial
      repeat' first | (with_reducible first | refine q01 ?_ | refine q02 ?_ | refine q03 ?_ | refine q04 ?_ | refine q05 ?_ | refine q06 ?_ | refine q11 ?_ | refine q12 ?_ | refine q14 ?_ | refine q16 ?_ | refine q17 ?_) | (with_reducible refine At.fn_ret (by simp -dsimp [hlt, hs]; exact rfl) ?_) | (with_reducible refine DT_regionE [0, 1, 2, 3, 4, 5, 8, 14, 23, 28] ?_; simp -dsimp [hlt, hs]) | (refine DT_cond rfl (fun h => ?_) (fun h => ?_) <;> (try simp only [nrm] at h) <;> (try exact Bool.noConfusion h))
      all_goals try simp -dsimp [hlt, hs]
      all_goals try clear hs
      all_goals rw [hE]
      · rw [if_pos (by omega)]
      · rw [if_neg (by omega), if_pos (by omega)]
      · rw [if_neg (by omega), if_neg (by omega)]
def lastOf (l : List Issue) (d : Int) : Int := l.foldl (fun n x => if x.drawing = d then max n x.letter else n) 0
theorem lastOf_c (l : List Issue) (d : Int) (hl : l.length < 1000000) (objs : List DObj) : DCall Tryz.prog G 153 [regv l, iv d] objs (fun rr objs' => rr = iv (lastOf l d) ∧ objs' = objs) := by
  refine DCall.frame ?_ (by simp) (by simp) objs
  refine DCall_intro Tryz.func153 rfl Tryz.ntmps153 (by simp) rfl ?_
  try simp only [regv, iv]
  have hs : True := trivial
  repeat' first | (with_reducible first | refine q01 ?_ | refine q11 ?_ | refine q12 ?_) | (with_reducible refine DT_regionE [0, 1, 2, 4, 5, 6, 11, 21] ?_; simp -dsimp [hs])
  all_goals try simp -dsimp [hs]
  all_goals try clear hs
  refine DT_loop (ι := { p : Nat × Int // p.1 ≤ l.length ∧ lastOf l d = (l.drop p.1).foldl (fun n x => if x.drawing = d then max n x.letter else n) p.2 }) (fun p => ⟨31, [(1, iv d), (2, .one (.ptr 0 0)), (5, iv p.1.2), (6, iv (p.1.1 : Int))], [.row [.im (.sl (l.map encIssue))]]⟩) (fun p => l.length - p.1.1) ⟨(0, 0), by simp [lastOf]⟩ (Weak.of_keep [1,2,5,6] (by simp)) ?_
  rintro ⟨⟨k, a⟩, hk, ha⟩
  simp only at hk ha
  simp only [iv]
  by_cases hlt : k < l.length
  · have hx : l[k]? = some l[k] := by simp [hlt]
    have hw : IntKind.i64.wrap ((k : Int) + 1) = ((k + 1 : Nat) : Int) := i64w (by omega) (by omega)
    rw [List.drop_eq_getElem_cons hlt, List.foldl_cons] at ha
    have hs : True := trivial
    repeat' first | (with_reducible first | refine q01 ?_ | refine q04 ?_ | refine q11 ?_ | refine q12 ?_ | refine q14 ?_) | (with_reducible refine DT_regionE [0, 1, 2, 4, 5, 6, 11, 21] ?_; simp -dsimp [hx, hw, hlt, hs]) | (refine DT_cond rfl (fun h => ?_) (fun h => ?_) <;> (try simp only [nrm] at h) <;> (try exact Bool.noConfusion h))
    all_goals try simp -dsimp [hx, hw, hlt, hs]
    all_goals try clear hs
    · exact At.round ⟨(k + 1, max a l[k].letter), by omega, by rw [ha, if_pos ‹_›]⟩ (by simp; omega) (Weak.of_keep [1,2,5,6] (by simp))
    · exact At.round ⟨(k + 1, a), by omega, by rw [ha, if_neg ‹_›]⟩ (by simp; omega) (Weak.of_keep [1,2,5,6] (by simp))
  · have ha' : lastOf l d = a := by rw [ha, List.drop_eq_nil_of_le (by omega)]; rfl
    have hs : True := trivial
    repeat' first | (with_reducible first | refine q01 ?_ | refine q03 ?_ | refine q06 ?_ | refine q11 ?_ | refine q16 ?_ | refine q17 ?_) | (with_reducible refine At.fn_ret (by simp -dsimp [hlt, hs]; exact rfl) ?_) | (with_reducible refine DT_regionE [0, 1, 2, 4, 5, 6, 11, 21] ?_; simp -dsimp [hlt, hs]) | (refine DT_cond rfl (fun h => ?_) (fun h => ?_) <;> (try simp only [nrm] at h) <;> (try exact Bool.noConfusion h))
    all_goals try simp -dsimp [hlt, hs]
    all_goals try clear hs
    rw [ha']
def letterOk (l : List Issue) (p : Int × Int) : Bool := decide (1 ≤ p.2) && decide (p.2 ≤ lastOf l p.1)
def lettersI (l : List Issue) (lets : List Int) : Bool := decide (lets.length = (nums l).length) && ((nums l).zip lets).all (letterOk l)
theorem letters_c (l : List Issue) (lets : List Int) (hl : l.length < 1000000) (hll : lets.length < 1000000) (objs : List DObj) : DCall Tryz.prog G 121 [regv l, isv lets] objs (fun rr objs' => rr = bv (lettersI l lets) ∧ objs' = objs) := by
  refine DCall.frame ?_ (by simp) (by simp) objs
  refine DCall_intro Tryz.func121 rfl Tryz.ntmps121 (by simp) rfl ?_
  try simp only [regv, isv]
  have c1 := numbers_c (G := G) l (by omega)
  have hE : lettersI l lets = (decide (lets.length = (nums l).length) && ((nums l).zip lets).all (letterOk l)) := rfl
  generalize nums l = ns at c1 hE
  by_cases he : lets.length = ns.length
  · rw [decide_eq_true he, Bool.true_and] at hE
    have he' : (lets.length : Int) = (ns.length : Int) := by omega
    have hs : True := trivial
    repeat' first | (with_reducible first | refine q01 ?_ | refine q11 ?_ | refine q12 ?_ | refine q14 ?_) | (refine CallE.pure (c1) ?_; try simp -dsimp [he', hs]) | (with_reducible refine DT_regionE [0, 1, 2, 4, 5, 6, 13, 17, 31] ?_; simp -dsimp [he', hs]) | (refine DT_cond rfl (fun h => ?_) (fun h => ?_) <;> (try simp only [nrm] at h) <;> (try exact Bool.noConfusion h))
    all_goals try simp -dsimp [he', hs]
    all_goals try clear hs
    refine DT_loop (ι := { k : Nat // k ≤ ns.length ∧ (ns.zip lets).all (letterOk l) = ((ns.zip lets).drop k).all (letterOk l) }) (fun p => ⟨32, [(1, isv lets), (2, .one (.ptr 0 0)), (5, isv ns), (6, iv (p.1 : Int))], [.row [.im (.sl (l.map encIssue))]]⟩) (fun p => ns.length - p.1) ⟨0, by simp⟩ (Weak.of_drop [1,2,5,6] 1 (by simp) (by simp) (by simp)) ?_
    rintro ⟨k, hk, ha⟩
    simp only [iv, isv]
    by_cases hlt : k < ns.length
    · have hx : ns[k]? = some ns[k] := by simp [hlt]
      have hlt2 : k < lets.length := by omega
      have hy : lets[k]? = some lets[k] := by simp [hlt2]
      have hw : IntKind.i64.wrap ((k : Int) + 1) = ((k + 1 : Nat) : Int) := i64w (by omega) (by omega)
      have hz : k < (ns.zip lets).length := by simp; omega
      have hst := all_step hz ha
      rw [List.getElem_zip] at hst
      have c2 := lastOf_c (G := G) l ns[k] hl
      have c3 := within_c (G := G) lets[k] 1 (lastOf l ns[k])
      have hq' : letterOk l (ns[k], lets[k]) = (decide (1 ≤ lets[k]) && decide (lets[k] ≤ lastOf l ns[k])) := rfl
      cases hq : letterOk l (ns[k], lets[k])
      · rw [← hq', hq] at c3
        have hs : True := trivial
        repeat' first | (with_reducible first | refine q01 ?_ | refine q02 ?_ | refine q05 ?_ | refine q11 ?_ | refine q12 ?_ | refine q14 ?_ | refine q17 ?_) | (with_reducible refine At.fn_ret (by simp -dsimp [hx, hy, hw, hlt, hlt2, hs]; exact rfl) ?_) | (refine QCall_pure (c2) ?_; try simp -dsimp [hx, hy, hw, hlt, hlt2, hs]) | (refine QCall_pure (c3) ?_; try simp -dsimp [hx, hy, hw, hlt, hlt2, hs]) | (refine DT_regionM (id := 7) (nt := 32) 12 [0, 1, 2, 4, 5, 6, 13, 17, 31] mixed rfl (by kernel_rfl) ?_; simp -dsimp [hx, hy, hw, hlt, hlt2, hs]) | (with_reducible refine DT_regionE [0, 1, 2, 4, 5, 6, 13, 17, 31] ?_; simp -dsimp [hx, hy, hw, hlt, hlt2, hs]) | (refine DT_cond rfl (fun h => ?_) (fun h => ?_) <;> (try simp only [nrm] at h) <;> (try exact Bool.noConfusion h))
        all_goals try simp -dsimp [hx, hy, hw, hlt, hlt2, hs]
        all_goals try clear hs
        rw [hE, false_step hst (by rw [hq]; exact Bool.false_ne_true)]
      · rw [← hq', hq] at c3
        have hs : True := trivial
        repeat' first | (with_reducible first | refine q01 ?_ | refine q04 ?_ | refine q11 ?_ | refine q12 ?_ | refine q14 ?_) | (refine QCall_pure (c2) ?_; try simp -dsimp [hx, hy, hw, hlt, hlt2, hs]) | (refine QCall_pure (c3) ?_; try simp -dsimp [hx, hy, hw, hlt, hlt2, hs]) | (refine DT_regionM (id := 7) (nt := 32) 12 [0, 1, 2, 4, 5, 6, 13, 17, 31] mixed rfl (by kernel_rfl) ?_; simp -dsimp [hx, hy, hw, hlt, hlt2, hs]) | (with_reducible refine DT_regionE [0, 1, 2, 4, 5, 6, 13, 17, 31] ?_; simp -dsimp [hx, hy, hw, hlt, hlt2, hs]) | (refine DT_cond rfl (fun h => ?_) (fun h => ?_) <;> (try simp only [nrm] at h) <;> (try exact Bool.noConfusion h))
        all_goals try simp -dsimp [hx, hy, hw, hlt, hlt2, hs]
        all_goals try clear hs
        exact At.round ⟨k + 1, by omega, eq_of_step hst hq⟩ (by simp; omega) (Weak.of_keep [1,2,5,6] (by simp))
    · have h1 : (ns.zip lets).all (letterOk l) = true := by rw [ha, List.drop_eq_nil_of_le (by simp; omega)]; rfl
      have hs : True := trivial
      repeat' first | (with_reducible first | refine q01 ?_ | refine q03 ?_ | refine q06 ?_ | refine q11 ?_ | refine q16 ?_ | refine q17 ?_) | (with_reducible refine At.fn_ret (by simp -dsimp [hlt, hs]; exact rfl) ?_) | (with_reducible refine DT_regionE [0, 1, 2, 4, 5, 6, 13, 17, 31] ?_; simp -dsimp [hlt, hs]) | (refine DT_cond rfl (fun h => ?_) (fun h => ?_) <;> (try simp only [nrm] at h) <;> (try exact Bool.noConfusion h))
      all_goals try simp -dsimp [hlt, hs]
      all_goals try clear hs
      rw [hE, h1]
  · have he' : ¬ (lets.length : Int) = (ns.length : Int) := by omega
    rw [decide_eq_false he, Bool.false_and] at hE
    have hs : True := trivial
    repeat' first | (with_reducible first | refine q01 ?_ | refine q02 ?_ | refine q11 ?_ | refine q17 ?_) | (with_reducible refine At.fn_ret (by simp -dsimp [he', hs]; exact rfl) ?_) | (refine CallE.pure (c1) ?_; try simp -dsimp [he', hs]) | (with_reducible refine DT_regionE [0, 1, 2, 4, 5, 6, 13, 17, 31] ?_; simp -dsimp [he', hs]) | (refine DT_cond rfl (fun h => ?_) (fun h => ?_) <;> (try simp only [nrm] at h) <;> (try exact Bool.noConfusion h))
    all_goals try simp -dsimp [he', hs]
    all_goals try clear hs
    rw [hE]
def takeI (l : List Issue) (lets : List Int) (d : Int) : Issue := (findI l d ((lets[(idx (nums l) d).toNat]?).getD 0)).getD zIssue
theorem taken_c (l : List Issue) (lets : List Int) (d : Int) (hl : l.length < 1000000) (hd : d ∈ nums l) (hll : lets.length = (nums l).length) (objs : List DObj) : DCall Tryz.prog G 112 [regv l, isv lets, iv d] objs (fun rr objs' => rr = issv (takeI l lets d) ∧ objs' = objs) := by
  refine DCall.frame ?_ (by simp) (by simp) objs
  refine DCall_intro Tryz.func112 rfl Tryz.ntmps112 (by simp) rfl ?_
  try simp only [regv, isv, iv]
  have c1 := numbers_c (G := G) l (by omega)
  have hnl : (nums l).length ≤ l.length := numsTo_length l l.length
  have hE : takeI l lets d = (findI l d ((lets[(idx (nums l) d).toNat]?).getD 0)).getD zIssue := rfl
  generalize nums l = ns at *
  have c2 := index_c (G := G) ns d (by omega)
  have h0 := idx_nonneg hd
  have hi : (idx ns d).toNat < ns.length := by
    obtain ⟨k, hk⟩ := List.mem_iff_getElem?.1 hd
    unfold idx
    cases hh : ns.idxOf? d with
    | none =>
      rw [List.idxOf?, List.findIdx?_eq_none_iff] at hh
      have := hh d hd; simp at this
    | some i =>
      rw [List.idxOf?, List.findIdx?_eq_some_iff_getElem] at hh
      simpa using hh.1
  generalize hidx : idx ns d = z at *
  obtain ⟨k, rfl⟩ : ∃ k : Nat, z = k := ⟨z.toNat, by omega⟩
  simp only [Int.toNat_natCast] at hi hE
  have hkl : k < lets.length := by omega
  have hy : lets[k]? = some lets[k] := by simp [hkl]
  rw [hy, Option.getD_some] at hE
  have c3 := find_c (G := G) l d lets[k] hl
  rw [← hE] at c3
  simp only [refv] at c3
  have hs : True := trivial
  repeat' first | (with_reducible first | refine q01 ?_ | refine q11 ?_ | refine q17 ?_) | (with_reducible refine At.fn_ret (by simp -dsimp [hy, hkl, hs]; exact rfl) ?_) | (refine QCall_pure (c1) ?_; try simp -dsimp [hy, hkl, hs]) | (refine QCall_pure (c2) ?_; try simp -dsimp [hy, hkl, hs]) | (refine QCall_pure (c3) ?_; try simp -dsimp [hy, hkl, hs]) | (refine DT_regionX (id := 1) (nt := 24) 15 [13] [0, 1, 2, 3, 6, 7, 9, 10, 11, 12, 13, 14, 15, 16, 17, 18, 19, 20, 21] [0, 1, 2, 3, 6, 7] mixed rfl (by kernel_rfl) ?_; simp -dsimp [hy, hkl, hs]) | (with_reducible refine DT_regionE [0, 1, 2, 3, 6, 7] ?_; simp -dsimp [hy, hkl, hs])
  all_goals try simp -dsimp [hy, hkl, hs]
  all_goals try clear hs
end Go.Proofs
namespace Go.Ab
open Go
structure Note where
  number : Int
  day : Int
  signed : Int
  drawing : Int
  letter : Int
  frm : Int
  to : Int
  cancels : Int
  useUp : Bool
  ways : Int
  deriving DecidableEq
structure Notes where
  reg : List Issue
  notes : List Note
  deriving DecidableEq
def encNote (x : Note) : List IC := [rI x.number, rI x.day, .raw (.int .u8 x.signed), rI x.drawing, rI x.letter, rI x.frm, rI x.to, rI x.cancels, rB x.useUp, .raw (.int .u8 x.ways)]
def encNotes (n : Notes) : List IC := [.sl (n.reg.map encIssue), .sl (n.notes.map encNote)]
def notev (x : Note) : DV := .agg ((encNote x).map .im)
def notesv (n : Notes) : DV := .agg ((encNotes n).map .im)
attribute [simp] encNote encNotes notev notesv
theorem encNote_len (x : Note) : (encNote x).length = 10 := rfl
end Go.Ab
namespace Go.Proofs
open Go Go.Ab
set_option linter.unusedSimpArgs false
variable {G : Nat → Option (List IC)}
def nk1 (x : Note) : Bool := (decide (1 ≤ x.number) && decide (x.number ≤ 9999)) && (decide (0 ≤ x.day) && decide (x.day ≤ 14610))
set_option maxHeartbeats 1000000 in
theorem nk1_c (n : Notes) (i : Nat) (x : Note) (hx : n.notes[i]? = some x) (objs : List DObj) : DCall Tryz.prog G 205 [notesv n, iv (i : Int)] objs (fun rr objs' => rr = bv (nk1 x) ∧ objs' = objs) := by
  refine DCall.frame ?_ (by simp) (by simp) objs
  refine DCall_intro Tryz.func205 rfl Tryz.ntmps205 (by simp) rfl ?_
  try simp only [notesv, iv]
  have hi : i < n.notes.length := lt_of_getElem? hx
  have hxe : n.notes[i] = x := (List.getElem?_eq_some_iff.1 hx).2
  have c1 := in_note (G := G) 1 9999 [x.number] (by simp)
  have c2 := in_note (G := G) 0 14610 [x.day] (by simp)
  have hs : True := trivial
  repeat' first | (with_reducible first | refine q01 ?_ | refine q11 ?_ | refine q17 ?_) | (with_reducible refine At.fn_ret (by simp -dsimp [hxe, hi, hs]; exact rfl) ?_) | (refine CallE.thaw (c1) ?_ ?_ ?_; (focus (simp; done)); (focus (simp; done)); try simp -dsimp [hxe, hi, hs]) | (refine CallE.thaw (c2) ?_ ?_ ?_; (focus (simp; done)); (focus (simp; done)); try simp -dsimp [hxe, hi, hs]) | (with_reducible refine DT_regionE [0, 1, 2, 4] ?_; simp -dsimp [hxe, hi, hs]) | (with_reducible refine GStop_split ?_ ?_ <;> intro h <;> have h0 := h <;> (try simp only [nrm] at h) <;> (try exact Bool.noConfusion h) <;> have h2 := h <;> (try simp at h2) <;> (replace hs := And.intro h0 (And.intro h (And.intro h2 hs))) <;> simp -dsimp [h0, h, h2, hxe, hi, hs])
  all_goals try simp -dsimp [hxe, hi, hs]
  all_goals try clear hs
  all_goals simp_all [nk1]
  all_goals omega
def nk2 (x : Note) : Bool := decide (x.signed ≤ 2) && decide (x.ways ≤ 3)
theorem nk2_c (n : Notes) (i : Nat) (x : Note) (hx : n.notes[i]? = some x) (objs : List DObj) : DCall Tryz.prog G 206 [notesv n, iv (i : Int)] objs (fun rr objs' => rr = bv (nk2 x) ∧ objs' = objs) := by
  refine DCall.frame ?_ (by simp) (by simp) objs
  refine DCall_intro Tryz.func206 rfl Tryz.ntmps206 (by simp) rfl ?_
  try simp only [notesv, iv]
  have hi : i < n.notes.length := lt_of_getElem? hx
  have hxe : n.notes[i] = x := (List.getElem?_eq_some_iff.1 hx).2
  have hs : True := trivial
  repeat' first | (with_reducible first | refine q01 ?_ | refine q11 ?_ | refine q17 ?_) | (with_reducible refine At.fn_ret (by simp -dsimp [hxe, hi, hs]; exact rfl) ?_) | (with_reducible refine DT_regionE [0, 1, 2, 4] ?_; simp -dsimp [hxe, hi, hs]) | (with_reducible refine GStop_split ?_ ?_ <;> intro h <;> have h0 := h <;> (try simp only [nrm] at h) <;> (try exact Bool.noConfusion h) <;> have h2 := h <;> (try simp at h2) <;> (replace hs := And.intro h0 (And.intro h (And.intro h2 hs))) <;> simp -dsimp [h0, h, h2, hxe, hi, hs])
  all_goals try simp -dsimp [hxe, hi, hs]
  all_goals try clear hs
  all_goals (clear hx; simp_all [nk2])
  all_goals omega
def nk3 (x : Note) : Bool := (decide (1 ≤ x.frm) && decide (x.frm ≤ 999)) && (decide (1 ≤ x.to) && decide (x.to ≤ 999)) && decide (x.frm ≤ x.to)
theorem nk3_c (n : Notes) (i : Nat) (x : Note) (hx : n.notes[i]? = some x) (objs : List DObj) : DCall Tryz.prog G 207 [notesv n, iv (i : Int)] objs (fun rr objs' => rr = bv (nk3 x) ∧ objs' = objs) := by
  refine DCall.frame ?_ (by simp) (by simp) objs
  refine DCall_intro Tryz.func207 rfl Tryz.ntmps207 (by simp) rfl ?_
  try simp only [notesv, iv]
  have hi : i < n.notes.length := lt_of_getElem? hx
  have hxe : n.notes[i] = x := (List.getElem?_eq_some_iff.1 hx).2
  have c1 := in_note (G := G) 1 999 [x.frm, x.to] (by simp)
  have hs : True := trivial
  repeat' first | (with_reducible first | refine q01 ?_ | refine q11 ?_ | refine q17 ?_) | (with_reducible refine At.fn_ret (by simp -dsimp [hxe, hi, hs]; exact rfl) ?_) | (refine CallE.thaw (c1) ?_ ?_ ?_; (focus (simp; done)); (focus (simp; done)); try simp -dsimp [hxe, hi, hs]) | (with_reducible refine DT_regionE [0, 1, 2, 4, 5] ?_; simp -dsimp [hxe, hi, hs]) | (with_reducible refine GStop_split ?_ ?_ <;> intro h <;> have h0 := h <;> (try simp only [nrm] at h) <;> (try exact Bool.noConfusion h) <;> have h2 := h <;> (try simp at h2) <;> (replace hs := And.intro h0 (And.intro h (And.intro h2 hs))) <;> simp -dsimp [h0, h, h2, hxe, hi, hs])
  all_goals try simp -dsimp [hxe, hi, hs]
  all_goals try clear hs
  all_goals (clear hx c1; simp_all [nk3])
  all_goals omega
end Go.Proofs
namespace Go.Proofs
open Go Go.Ab
set_option linter.unusedSimpArgs false
variable {G : Nat → Option (List IC)}
theorem indexFunc_note (l : List Note) (p : Note → Bool) (k : Nat) (caps : List DC) (objs : List DObj) (hok : CallOk Tryz.prog k) (hf : ∀ x ∈ l, DCall Tryz.prog G k (notev x :: caps.map .one) objs (fun d o => d = bv (p x) ∧ o = objs)) (hl : l.length < 1000000) : DCall Tryz.prog G 69 [.one (.im (.sl (l.map encNote))), .one (.fn (.func k) caps)] objs (fun d o => d = iv (fidx p l) ∧ o = objs) := by
  refine DCall_intro Tryz.func69 rfl Tryz.ntmps69 (by simp) rfl ?_
  have hs : True := trivial
  repeat' first | (with_reducible first | refine q01 ?_ | refine q11 ?_ | refine q12 ?_) | (with_reducible refine DT_regionE [0, 1, 4, 5, 7, 8, 9, 16] ?_; simp -dsimp [hs])
  all_goals try simp -dsimp [hs]
  all_goals try clear hs
  refine DT_loop (ι := { k : Nat // k ≤ l.length ∧ ∀ j x, j < k → l[j]? = some x → p x = false }) (fun i => ⟨19, [(0, .one (.im (.sl (l.map encNote)))), (1, .one (.fn (.func k) caps)), (7, iv (l.length : Int)), (8, iv (i.1 : Int))], objs⟩) (fun i => l.length - i.1) ⟨0, by simp⟩ (Weak.of_keep [0,1,7,8] (by simp)) ?_
  rintro ⟨i, hi, hno⟩
  simp only [iv]
  by_cases hlt : i < l.length
  · have hx : l[i]? = some l[i] := by simp [hlt]
    have hw : IntKind.i64.wrap ((i : Int) + 1) = ((i + 1 : Nat) : Int) := i64w (by omega) (by omega)
    have hc := hf l[i] (by simp)
    simp only [notev, encNote, List.map_cons, List.map_nil, bv, rI] at hc
    have hs : True := trivial
    repeat' first | (with_reducible first | refine q01 ?_ | refine q02 ?_ | refine q03 ?_ | refine q04 ?_ | refine q05 ?_ | refine q06 ?_ | refine q11 ?_ | refine q12 ?_ | refine q14 ?_ | refine q16 ?_ | refine q17 ?_ | refine And.intro (by omega) ?_) | (with_reducible refine At.fn_ret (by simp -dsimp [hx, hw, hok, hs]; exact rfl) ?_) | (refine CallE.here hc ?_; try simp -dsimp [hx, hw, hok, hs]) | (with_reducible refine DT_regionE [0, 1, 4, 5, 7, 8, 9, 16] ?_; simp -dsimp [hx, hw, hok, hs]) | (refine DT_cond rfl (fun h => ?_) (fun h => ?_) <;> (try simp only [nrm] at h) <;> (try exact Bool.noConfusion h)) | with_reducible refine And.intro ?_ ?_
    all_goals try simp -dsimp [hx, hw, hok, hs]
    all_goals try clear hs
    all_goals try omega
    · exact (fidx_yes hx (by assumption) hno).symm
    · exact At.round ⟨i + 1, by omega, fun j x hj hjx => by
        by_cases e : j = i
        · subst e; rw [hx] at hjx; cases hjx; assumption
        · exact hno j x (by omega) hjx⟩ (by simp; omega) (Weak.of_keep [0,1,7,8] (by simp))
  · have hs : True := trivial
    repeat' first | (with_reducible first | refine q01 ?_ | refine q03 ?_ | refine q06 ?_ | refine q11 ?_ | refine q12 ?_ | refine q14 ?_ | refine q16 ?_ | refine q17 ?_) | (with_reducible refine At.fn_ret (by simp -dsimp [hs]; exact rfl) ?_) | (with_reducible refine DT_regionE [0, 1, 4, 5, 7, 8, 9, 16] ?_; simp -dsimp [hs]) | (refine DT_cond rfl (fun h => ?_) (fun h => ?_) <;> (try simp only [nrm] at h) <;> (try exact Bool.noConfusion h)) | with_reducible refine And.intro ?_ ?_
    all_goals try simp -dsimp [hs]
    all_goals try clear hs
    all_goals try omega
    exact (fidx_no fun j x hjx => hno j x (by have := lt_of_getElem? hjx; omega) hjx).symm
theorem containsFunc_note (l : List Note) (p : Note → Bool) (k : Nat) (caps : List DC) (objs : List DObj) (hok : CallOk Tryz.prog k) (hf : ∀ x ∈ l, DCall Tryz.prog G k (notev x :: caps.map .one) objs (fun d o => d = bv (p x) ∧ o = objs)) (hl : l.length < 1000000) : DCall Tryz.prog G 211 [.one (.im (.sl (l.map encNote))), .one (.fn (.func k) caps)] objs (fun d o => d = bv (l.any p) ∧ o = objs) := by
  refine DCall_intro Tryz.func211 rfl Tryz.ntmps211 (by simp) rfl ?_
  have hc := indexFunc_note l p k caps objs hok hf hl
  have hs : True := trivial
  repeat' first | (with_reducible first | refine q01 ?_ | refine q11 ?_ | refine q17 ?_) | (with_reducible refine At.fn_ret (by simp -dsimp [hs]; exact rfl) ?_) | (refine CallE.here hc ?_; try simp -dsimp [hs]) | (with_reducible refine DT_regionE [0, 1, 4] ?_; simp -dsimp [hs]) | with_reducible refine And.intro ?_ ?_
  all_goals try simp -dsimp [hs]
  all_goals try clear hs
  simp [fidx_nonneg]
def nk5 (x : Note) : Bool := decide (2 ≤ x.letter) || !x.useUp && decide (x.ways = 0)
theorem nk5_c (n : Notes) (i : Nat) (x : Note) (hx : n.notes[i]? = some x) (objs : List DObj) : DCall Tryz.prog G 209 [notesv n, iv (i : Int)] objs (fun rr objs' => rr = bv (nk5 x) ∧ objs' = objs) := by
  refine DCall.frame ?_ (by simp) (by simp) objs
  refine DCall_intro Tryz.func209 rfl Tryz.ntmps209 (by simp) rfl ?_
  try simp only [notesv, iv]
  have hi : i < n.notes.length := lt_of_getElem? hx
  have hxe : n.notes[i] = x := (List.getElem?_eq_some_iff.1 hx).2
  have hs : True := trivial
  repeat' first | (with_reducible first | refine q01 ?_ | refine q11 ?_ | refine q17 ?_) | (with_reducible refine At.fn_ret (by simp -dsimp [hxe, hi, hs]; exact rfl) ?_) | (with_reducible refine DT_regionE [0, 1, 2, 4, 5] ?_; simp -dsimp [hxe, hi, hs]) | (with_reducible refine GStop_split ?_ ?_ <;> intro h <;> have h0 := h <;> (try simp only [nrm] at h) <;> (try exact Bool.noConfusion h) <;> have h2 := h <;> (try simp at h2) <;> (replace hs := And.intro h0 (And.intro h (And.intro h2 hs))) <;> simp -dsimp [h0, h, h2, hxe, hi, hs])
  all_goals try simp -dsimp [hxe, hi, hs]
  all_goals try clear hs
  all_goals (clear hx; simp_all [nk5])
  all_goals omega
theorem nk61_c (n : Notes) (x y : Note) : DCall Tryz.prog G 212 (notev y :: [DC.ptr 1 0].map .one) [.row ((encNotes n).map .im), .row ((encNote x).map .im)] (fun d o => d = bv (decide (y.number = x.cancels)) ∧ o = [.row ((encNotes n).map .im), .row ((encNote x).map .im)]) := by
  refine DCall.drop ?_
  refine DCall_intro Tryz.func212 rfl Tryz.ntmps212 (by simp) rfl ?_
  simp only [notev, encNote, encNotes, rI, rB]
  have hs : True := trivial
  repeat' first | (with_reducible first | refine q01 ?_ | refine q11 ?_ | refine q17 ?_) | (with_reducible refine At.fn_ret (by simp -dsimp [hs]; exact rfl) ?_) | (with_reducible refine DT_regionE [0, 1, 2, 3] ?_; simp -dsimp [hs]) | with_reducible refine And.intro ?_ ?_
  all_goals try simp -dsimp [hs]
  all_goals try clear hs
def nk6 (l : List Note) (i : Nat) (x : Note) : Bool := decide (x.cancels = 0) || (l.take i).any fun y => decide (y.number = x.cancels)
theorem nk6_c (n : Notes) (i : Nat) (x : Note) (hx : n.notes[i]? = some x) (hl : n.notes.length < 1000) (objs : List DObj) : DCall Tryz.prog G 210 [notesv n, iv (i : Int)] objs (fun rr objs' => rr = bv (nk6 n.notes i x) ∧ objs' = objs) := by
  refine DCall.frame ?_ (by simp) (by simp) objs
  refine DCall_intro Tryz.func210 rfl Tryz.ntmps210 (by simp) rfl ?_
  try simp only [notesv, iv]
  have hi : i < n.notes.length := lt_of_getElem? hx
  have hxe : n.notes[i] = x := (List.getElem?_eq_some_iff.1 hx).2
  have hlt : (n.notes.take i).length < 1000000 := by simp; omega
  have hil : i ≤ n.notes.length := by omega
  have c1 := containsFunc_note (G := G) (n.notes.take i) (fun y => decide (y.number = x.cancels)) 212 [.ptr 1 0] [.row ((encNotes n).map .im), .row ((encNote x).map .im)] (by simp) (fun y _ => nk61_c n x y) hlt
  simp only [encNote, encNotes, rI, rB, List.map_take, List.map_cons, List.map_nil] at c1
  have hs : True := trivial
  repeat' first | (with_reducible first | refine q01 ?_ | refine q11 ?_ | refine q17 ?_) | (with_reducible refine At.fn_ret (by simp -dsimp [hxe, hi, hil, hs]; exact rfl) ?_) | (refine CallE.here (c1) ?_; try simp -dsimp [hxe, hi, hil, hs]) | (with_reducible refine DT_regionE [0, 1, 2, 4, 5] ?_; simp -dsimp [hxe, hi, hil, hs]) | (with_reducible refine GStop_split ?_ ?_ <;> intro h <;> have h0 := h <;> (try simp only [nrm] at h) <;> (try exact Bool.noConfusion h) <;> have h2 := h <;> (try simp at h2) <;> (replace hs := And.intro h0 (And.intro h (And.intro h2 hs))) <;> simp -dsimp [h0, h, h2, hxe, hi, hil, hs])
  all_goals try simp -dsimp [hxe, hi, hil, hs]
  all_goals try clear hs
  all_goals (clear hx c1; simp_all [nk6])
theorem nk71_c (n : Notes) (i : Nat) (x y : Note) (hx : n.notes[i]? = some x) : DCall Tryz.prog G 214 (notev y :: [DC.ptr 0 0, DC.ptr 1 0].map .one) [.row ((encNotes n).map .im), .row [.im (rI (i : Int))]] (fun d o => d = bv (decide (y.number = x.number)) ∧ o = [.row ((encNotes n).map .im), .row [.im (rI (i : Int))]]) := by
  have hi : i < n.notes.length := lt_of_getElem? hx
  have hxe : n.notes[i] = x := (List.getElem?_eq_some_iff.1 hx).2
  refine DCall.drop ?_
  refine DCall_intro Tryz.func214 rfl Tryz.ntmps214 (by simp) rfl ?_
  simp only [notev, encNote, encNotes, rI, rB]
  have hs : True := trivial
  repeat' first | (with_reducible first | refine q01 ?_ | refine q11 ?_ | refine q17 ?_) | (with_reducible refine At.fn_ret (by simp -dsimp [hxe, hi, hs]; exact rfl) ?_) | (refine DT_regionM (id := 1) (nt := 14) 10 [0, 1, 2, 3, 4] mixed rfl (by kernel_rfl) ?_; simp -dsimp [hxe, hi, hs]) | (with_reducible refine DT_regionE [0, 1, 2, 3, 4] ?_; simp -dsimp [hxe, hi, hs]) | with_reducible refine And.intro ?_ ?_
  all_goals try simp -dsimp [hxe, hi, hs]
  all_goals try clear hs
def nk7 (l : List Note) (i : Nat) (x : Note) : Bool := !(l.take i).any fun y => decide (y.number = x.number)
theorem nk7_c (n : Notes) (i : Nat) (x : Note) (hx : n.notes[i]? = some x) (hl : n.notes.length < 1000) (objs : List DObj) : DCall Tryz.prog G 213 [notesv n, iv (i : Int)] objs (fun rr objs' => rr = bv (nk7 n.notes i x) ∧ objs' = objs) := by
  refine DCall.frame ?_ (by simp) (by simp) objs
  refine DCall_intro Tryz.func213 rfl Tryz.ntmps213 (by simp) rfl ?_
  try simp only [notesv, iv]
  have hi : i < n.notes.length := lt_of_getElem? hx
  have hlt : (n.notes.take i).length < 1000000 := by simp; omega
  have hil : i ≤ n.notes.length := by omega
  have c1 := containsFunc_note (G := G) (n.notes.take i) (fun y => decide (y.number = x.number)) 214 [.ptr 0 0, .ptr 1 0] [.row ((encNotes n).map .im), .row [.im (rI (i : Int))]] (by simp) (fun y _ => nk71_c n i x y hx) hlt
  simp only [encNote, encNotes, rI, rB, List.map_take, List.map_cons, List.map_nil] at c1
  have hs : True := trivial
  repeat' first | (with_reducible first | refine q01 ?_ | refine q11 ?_ | refine q17 ?_) | (with_reducible refine At.fn_ret (by simp -dsimp [hi, hil, hs]; exact rfl) ?_) | (refine CallE.here (c1) ?_; try simp -dsimp [hi, hil, hs]) | (with_reducible refine DT_regionE [0, 1, 2, 3, 4] ?_; simp -dsimp [hi, hil, hs])
  all_goals try simp -dsimp [hi, hil, hs]
  all_goals try clear hs
  all_goals (clear hx c1; simp_all [nk7])
def orI : List Int → Int
  | [] => 0
  | x :: r => if x = 0 then orI r else x
theorem or_c (l : List Int) (hl : l.length < 1000000) (objs : List DObj) : DCall Tryz.prog G 126 [isv l] objs (fun rr objs' => rr = iv (orI l) ∧ objs' = objs) := by
  refine DCall.frame ?_ (by simp) (by simp) objs
  refine DCall_intro Tryz.func126 rfl Tryz.ntmps126 (by simp) rfl ?_
  try simp only [isv]
  have hs : True := trivial
  repeat' first | (with_reducible first | refine q01 ?_ | refine q11 ?_ | refine q12 ?_) | (with_reducible refine DT_regionE [0, 2, 3, 5, 6, 7, 8, 9, 14] ?_; simp -dsimp [hs])
  all_goals try simp -dsimp [hs]
  all_goals try clear hs
  refine DT_loop (ι := { p : Nat // p ≤ l.length ∧ orI l = orI (l.drop p) }) (fun p => ⟨18, [(3, iv 0), (6, .one (.im (.sl (l.map encI)))), (7, iv (l.length : Int)), (8, iv (p.1 : Int))], []⟩) (fun p => l.length - p.1) ⟨0, by simp⟩ (Weak.of_keep [3,6,7,8] (by simp)) ?_
  rintro ⟨k, hk, hu⟩
  simp only [iv]
  by_cases hlt : k < l.length
  · have hw : IntKind.i64.wrap ((k : Int) + 1) = ((k + 1 : Nat) : Int) := i64w (by omega) (by omega)
    rw [List.drop_eq_getElem_cons hlt, orI] at hu
    generalize hx : l[k] = x at *
    have hs : True := trivial
    repeat' first | (with_reducible first | refine q01 ?_ | refine q02 ?_ | refine q04 ?_ | refine q05 ?_ | refine q11 ?_ | refine q12 ?_ | refine q14 ?_ | refine q17 ?_) | (with_reducible refine At.fn_ret (by simp -dsimp [hx, hw, hlt, hs]; exact rfl) ?_) | (with_reducible refine DT_regionE [0, 2, 3, 5, 6, 7, 8, 9, 14] ?_; simp -dsimp [hx, hw, hlt, hs]) | (refine DT_cond rfl (fun h => ?_) (fun h => ?_) <;> (try simp only [nrm] at h) <;> (try exact Bool.noConfusion h))
    all_goals try simp -dsimp [hx, hw, hlt, hs]
    all_goals try clear hs
    · rw [hu, if_neg (by assumption)]
    · rw [if_pos (by assumption)] at hu
      exact At.round ⟨k + 1, by omega, hu⟩ (by simp; omega) (Weak.of_keep [3,6,7,8] (by simp))
  · rw [List.drop_eq_nil_of_le (by omega)] at hu
    have hs : True := trivial
    repeat' first | (with_reducible first | refine q01 ?_ | refine q03 ?_ | refine q06 ?_ | refine q11 ?_ | refine q16 ?_ | refine q17 ?_) | (with_reducible refine At.fn_ret (by simp -dsimp [hlt, hs]; exact rfl) ?_) | (with_reducible refine DT_regionE [0, 2, 3, 5, 6, 7, 8, 9, 14] ?_; simp -dsimp [hlt, hs]) | (refine DT_cond rfl (fun h => ?_) (fun h => ?_) <;> (try simp only [nrm] at h) <;> (try exact Bool.noConfusion h))
    all_goals try simp -dsimp [hlt, hs]
    all_goals try clear hs
    rw [hu]; rfl
end Go.Proofs
namespace Go.Proofs
open Go Go.Ab
set_option linter.unusedSimpArgs false
variable {G : Nat → Option (List IC)}
def befN (y x : Note) : Bool := decide (y.day < x.day) || decide (y.day = x.day) && decide (y.number < x.number)
def nk8 (l : List Note) (i : Nat) (x : Note) : Bool := if i = 0 then true else match l[i - 1]? with | some y => befN y x | none => false
theorem or_cmp (y x : Note) : decide (orI [cmpI y.day x.day, cmpI y.number x.number] < 0) = befN y x := by
  unfold befN cmpI orI orI orI
  rw [Bool.eq_iff_iff]
  simp only [decide_eq_true_eq, Bool.or_eq_true, Bool.and_eq_true]
  repeat' split
  all_goals omega
set_option maxHeartbeats 1000000 in
theorem nk8_c (n : Notes) (i : Nat) (x : Note) (hx : n.notes[i]? = some x) (hl : n.notes.length < 1000) (objs : List DObj) : DCall Tryz.prog G 215 [notesv n, iv (i : Int)] objs (fun rr objs' => rr = bv (nk8 n.notes i x) ∧ objs' = objs) := by
  refine DCall.frame ?_ (by simp) (by simp) objs
  refine DCall_intro Tryz.func215 rfl Tryz.ntmps215 (by simp) rfl ?_
  try simp only [notesv, iv]
  have hi : i < n.notes.length := lt_of_getElem? hx
  have hxe : n.notes[i] = x := (List.getElem?_eq_some_iff.1 hx).2
  by_cases h00 : i = 0
  · subst h00
    have hs : True := trivial
    repeat' first | (with_reducible first | refine q01 ?_ | refine q11 ?_ | refine q17 ?_) | (with_reducible refine At.fn_ret (by simp -dsimp [hxe, hi, hs]; exact rfl) ?_) | (refine DT_regionM (id := 1) (nt := 40) 36 [0, 1, 2, 4] mixed rfl (by kernel_rfl) ?_; simp -dsimp [hxe, hi, hs]) | (with_reducible refine DT_regionE [0, 1, 2, 4] ?_; simp -dsimp [hxe, hi, hs])
    all_goals try simp -dsimp [hxe, hi, hs]
    all_goals try clear hs
    all_goals simp [nk8]
  · have hi1 : i - 1 < n.notes.length := by omega
    have hw : IntKind.i64.wrap ((i : Int) - 1) = ((i - 1 : Nat) : Int) := by rw [i64w (by omega) (by omega)]; omega
    have hne : ((i : Int) = 0) = False := by simp [h00]
    generalize hy : n.notes[i - 1] = y
    have c1 := compare_c (G := G) y.day x.day
    have c2 := compare_c (G := G) y.number x.number
    have c3 := or_c (G := G) [cmpI y.day x.day, cmpI y.number x.number] (by simp)
    have hs : True := trivial
    repeat' first | (with_reducible first | refine q01 ?_ | refine q11 ?_ | refine q17 ?_) | (with_reducible refine At.fn_ret (by simp -dsimp [hxe, hi, hi1, hw, hne, hy, h00, hs]; exact rfl) ?_) | (refine QCall_pure (c1) ?_; try simp -dsimp [hxe, hi, hi1, hw, hne, hy, h00, hs]) | (refine QCall_pure (c2) ?_; try simp -dsimp [hxe, hi, hi1, hw, hne, hy, h00, hs]) | (refine QCall_pure (c3) ?_; try simp -dsimp [hxe, hi, hi1, hw, hne, hy, h00, hs]) | (refine DT_regionM (id := 1) (nt := 40) 36 [0, 1, 2, 4] mixed rfl (by kernel_rfl) ?_; simp -dsimp [hxe, hi, hi1, hw, hne, hy, h00, hs]) | (with_reducible refine DT_regionE [0, 1, 2, 4] ?_; simp -dsimp [hxe, hi, hi1, hw, hne, hy, h00, hs])
    all_goals try simp -dsimp [hxe, hi, hi1, hw, hne, hy, h00, hs]
    all_goals try clear hs
    rw [or_cmp, nk8, if_neg h00, List.getElem?_eq_getElem hi1, hy]
def nk4 (l : List Issue) (x : Note) : Bool := if x.drawing = 0 ∧ x.letter = 0 then decide (x.cancels ≠ 0) else decide (atE l x.drawing x.letter = 0)
theorem nk4_c (n : Notes) (i : Nat) (x : Note) (hx : n.notes[i]? = some x) (hG : sheetG G) (hs : SmallR n.reg) (objs : List DObj) : DCall Tryz.prog G 208 [notesv n, iv (i : Int)] objs (fun rr objs' => rr = bv (nk4 n.reg x) ∧ objs' = objs) := by
  refine DCall.frame ?_ (by simp) (by simp) objs
  refine DCall_intro Tryz.func208 rfl Tryz.ntmps208 (by simp) rfl ?_
  try simp only [notesv, iv]
  have hi : i < n.notes.length := lt_of_getElem? hx
  have hxe : n.notes[i] = x := (List.getElem?_eq_some_iff.1 hx).2
  have c1 := at_c (G := G) n.reg x.drawing x.letter hG hs
  simp only [refv] at c1
  have hs : True := trivial
  repeat' first | (with_reducible first | refine q01 ?_ | refine q02 ?_ | refine q11 ?_ | refine q14 ?_ | refine q17 ?_) | (with_reducible refine At.fn_ret (by simp -dsimp [hxe, hi, hs]; exact rfl) ?_) | (refine CallE.pure (c1) ?_; try simp -dsimp [hxe, hi, hs]) | (with_reducible refine DT_regionE [0, 1, 2, 4, 5, 7, 19] ?_; simp -dsimp [hxe, hi, hs]) | (refine DT_cond rfl (fun h => ?_) (fun h => ?_) <;> (try simp only [nrm] at h) <;> (try exact Bool.noConfusion h))
  all_goals try simp -dsimp [hxe, hi, hs]
  all_goals try clear hs
  · have h1 : x.drawing = 0 ∧ x.letter = 0 := ⟨h.1.symm, h.2.symm⟩
    rw [nk4, if_pos h1]; simp
  · rw [nk4, if_neg (by omega)]
end Go.Proofs
namespace Go.Proofs
open Go Go.Ab
set_option linter.unusedSimpArgs false
variable {G : Nat → Option (List IC)}
theorem indexS_c (l : List Int) (n : Int) (hl : l.length < 1000000) (objs : List DObj) : DCall Tryz.prog G 107 [isv l, iv n] objs (fun rr objs' => rr = iv (fidx (fun x => decide (n = x)) l) ∧ objs' = objs) := by
  refine DCall.frame ?_ (by simp) (by simp) objs
  refine DCall_intro Tryz.func107 rfl Tryz.ntmps107 (by simp) rfl ?_
  try simp only [isv, iv]
  have hs : True := trivial
  repeat' first | (with_reducible first | refine q01 ?_ | refine q11 ?_ | refine q12 ?_) | (with_reducible refine DT_regionE [0, 1, 4, 5, 7, 8, 9, 16] ?_; simp -dsimp [hs])
  all_goals try simp -dsimp [hs]
  all_goals try clear hs
  refine DT_loop (ι := { k : Nat // k ≤ l.length ∧ ∀ j x, j < k → l[j]? = some x → decide (n = x) = false }) (fun i => ⟨19, [(0, isv l), (1, iv n), (7, iv (l.length : Int)), (8, iv (i.1 : Int))], []⟩) (fun i => l.length - i.1) ⟨0, by simp⟩ (Weak.of_keep [0,1,7,8] (by simp)) ?_
  rintro ⟨i, hi, hno⟩
  simp only [iv, isv]
  by_cases hlt : i < l.length
  · have hx0 : l[i]? = some l[i] := by simp [hlt]
    have hw : IntKind.i64.wrap ((i : Int) + 1) = ((i + 1 : Nat) : Int) := i64w (by omega) (by omega)
    generalize hx : l[i] = x at *
    have hs : True := trivial
    repeat' first | (with_reducible first | refine q01 ?_ | refine q02 ?_ | refine q04 ?_ | refine q05 ?_ | refine q11 ?_ | refine q12 ?_ | refine q14 ?_ | refine q17 ?_) | (with_reducible refine At.fn_ret (by simp -dsimp [hx, hw, hlt, hs]; exact rfl) ?_) | (with_reducible refine DT_regionE [0, 1, 4, 5, 7, 8, 9, 16] ?_; simp -dsimp [hx, hw, hlt, hs]) | (refine DT_cond rfl (fun h => ?_) (fun h => ?_) <;> (try simp only [nrm] at h) <;> (try exact Bool.noConfusion h))
    all_goals try simp -dsimp [hx, hw, hlt, hs]
    all_goals try clear hs
    · exact (fidx_yes hx0 (by simp; assumption) hno).symm
    · exact At.round ⟨i + 1, by omega, fun j y hj hjx => by
        by_cases e : j = i
        · subst e; rw [hx0] at hjx; cases hjx; simp; assumption
        · exact hno j y (by omega) hjx⟩ (by simp; omega) (Weak.of_keep [0,1,7,8] (by simp))
  · have hs : True := trivial
    repeat' first | (with_reducible first | refine q01 ?_ | refine q03 ?_ | refine q06 ?_ | refine q11 ?_ | refine q16 ?_ | refine q17 ?_) | (with_reducible refine At.fn_ret (by simp -dsimp [hlt, hs]; exact rfl) ?_) | (with_reducible refine DT_regionE [0, 1, 4, 5, 7, 8, 9, 16] ?_; simp -dsimp [hlt, hs]) | (refine DT_cond rfl (fun h => ?_) (fun h => ?_) <;> (try simp only [nrm] at h) <;> (try exact Bool.noConfusion h))
    all_goals try simp -dsimp [hlt, hs]
    all_goals try clear hs
    exact (fidx_no fun j x hjx => hno j x (by have := lt_of_getElem? hjx; omega) hjx).symm
theorem contains_c (l : List Int) (n : Int) (hl : l.length < 1000000) (objs : List DObj) : DCall Tryz.prog G 65 [isv l, iv n] objs (fun rr objs' => rr = bv (decide (n ∈ l)) ∧ objs' = objs) := by
  refine DCall.frame ?_ (by simp) (by simp) objs
  refine DCall_intro Tryz.func65 rfl Tryz.ntmps65 (by simp) rfl ?_
  try simp only [isv, iv]
  have hc := indexS_c (G := G) l n hl
  have hs : True := trivial
  repeat' first | (with_reducible first | refine q01 ?_ | refine q11 ?_ | refine q17 ?_) | (with_reducible refine At.fn_ret (by simp -dsimp [hs]; exact rfl) ?_) | (refine CallE.pure (hc) ?_; try simp -dsimp [hs]) | (with_reducible refine DT_regionE [0, 1, 4] ?_; simp -dsimp [hs])
  all_goals try simp -dsimp [hs]
  all_goals try clear hs
  have h1 := fidx_nonneg (fun x => decide (n = x)) l
  rw [← decide_eq_true_iff (p := 0 ≤ _), h1]
  simp
theorem within3_c (n lo hi : Int) (objs : List DObj) : DCall Tryz.prog G 102 [iv n, iv lo, iv hi] objs (fun rr objs' => rr = bv (decide (lo ≤ n) && decide (n ≤ hi)) ∧ objs' = objs) := by
  refine DCall.frame ?_ (by simp) (by simp) objs
  refine DCall_intro Tryz.func102 rfl Tryz.ntmps102 (by simp) rfl ?_
  try simp only [iv, iv, iv]
  have hs : True := trivial
  repeat' first | (with_reducible first | refine q01 ?_ | refine q11 ?_ | refine q17 ?_) | (with_reducible refine At.fn_ret (by simp -dsimp [hs]; exact rfl) ?_) | (with_reducible refine DT_regionE [0, 1, 2, 6] ?_; simp -dsimp [hs]) | (with_reducible refine GStop_split ?_ ?_ <;> intro h <;> have h0 := h <;> (try simp only [nrm] at h) <;> (try exact Bool.noConfusion h) <;> have h2 := h <;> (try simp at h2) <;> (replace hs := And.intro h0 (And.intro h (And.intro h2 hs))) <;> simp -dsimp [h0, h, h2, hs])
  all_goals try simp -dsimp [hs]
  all_goals try clear hs
  all_goals simp_all
theorem has3_c (l : List Int) (n : Int) (hl : l.length < 1000000) (objs : List DObj) : DCall Tryz.prog G 103 [isv l, iv n] objs (fun rr objs' => rr = bv (decide (n ∈ l)) ∧ objs' = objs) := by
  refine DCall.frame ?_ (by simp) (by simp) objs
  refine DCall_intro Tryz.func103 rfl Tryz.ntmps103 (by simp) rfl ?_
  try simp only [isv, iv]
  have hs : True := trivial
  repeat' first | (with_reducible first | refine q01 ?_ | refine q11 ?_ | refine q12 ?_) | (with_reducible refine DT_regionE [0, 1, 4, 5, 9, 17] ?_; simp -dsimp [hs])
  all_goals try simp -dsimp [hs]
  all_goals try clear hs
  refine DT_loop (ι := { k : Nat // k ≤ l.length ∧ decide (n ∈ l) = decide (n ∈ l.drop k) }) (fun i => ⟨18, [(0, isv l), (1, iv n), (5, iv (i.1 : Int))], []⟩) (fun i => l.length - i.1) ⟨0, by simp⟩ (Weak.of_keep [0,1,5] (by simp)) ?_
  rintro ⟨i, hi, hno⟩
  simp only [iv, isv]
  by_cases hlt : i < l.length
  · have hw : IntKind.i64.wrap ((i : Int) + 1) = ((i + 1 : Nat) : Int) := i64w (by omega) (by omega)
    rw [List.drop_eq_getElem_cons hlt] at hno
    generalize hx : l[i] = x at *
    have hs : True := trivial
    repeat' first | (with_reducible first | refine q01 ?_ | refine q02 ?_ | refine q04 ?_ | refine q05 ?_ | refine q11 ?_ | refine q12 ?_ | refine q14 ?_ | refine q17 ?_) | (with_reducible refine At.fn_ret (by simp -dsimp [hx, hw, hlt, hs]; exact rfl) ?_) | (with_reducible refine DT_regionE [0, 1, 4, 5, 9, 17] ?_; simp -dsimp [hx, hw, hlt, hs]) | (refine DT_cond rfl (fun h => ?_) (fun h => ?_) <;> (try simp only [nrm] at h) <;> (try exact Bool.noConfusion h))
    all_goals try simp -dsimp [hx, hw, hlt, hs]
    all_goals try clear hs
    · exact of_decide_eq_true (by rw [hno]; simp [*])
    · exact At.round ⟨i + 1, by omega, by rw [hno, decide_eq_decide, List.mem_cons]; exact or_iff_right (fun e => absurd e.symm (by assumption))⟩ (by simp; omega) (Weak.of_keep [0,1,5] (by simp))
  · rw [List.drop_eq_nil_of_le (by omega)] at hno
    have hs : True := trivial
    repeat' first | (with_reducible first | refine q01 ?_ | refine q03 ?_ | refine q06 ?_ | refine q11 ?_ | refine q16 ?_ | refine q17 ?_) | (with_reducible refine At.fn_ret (by simp -dsimp [hlt, hs]; exact rfl) ?_) | (with_reducible refine DT_regionE [0, 1, 4, 5, 9, 17] ?_; simp -dsimp [hlt, hs]) | (refine DT_cond rfl (fun h => ?_) (fun h => ?_) <;> (try simp only [nrm] at h) <;> (try exact Bool.noConfusion h))
    all_goals try simp -dsimp [hlt, hs]
    all_goals try clear hs
    exact fun hm => by simp [hm] at hno
end Go.Proofs
namespace Go.Proofs
open Go Go.Ab
/-- All that a note is asked, at its place. -/
def nkA (n : Notes) (i : Nat) (x : Note) : Bool := nk1 x && nk2 x && nk3 x && nk4 n.reg x && nk5 x && nk6 n.notes i x && nk7 n.notes i x && nk8 n.notes i x
def nkI (n : Notes) (i : Nat) (x : Note) : Nat → Bool
  | 0 => nk1 x
  | 1 => nk2 x
  | 2 => nk3 x
  | 3 => nk4 n.reg x
  | 4 => nk5 x
  | 5 => nk6 n.notes i x
  | 6 => nk7 n.notes i x
  | _ => nk8 n.notes i x
theorem nkI_bad {n : Notes} {i : Nat} {x : Note} {k : Nat} (h : nkI n i x k = false) : nkA n i x = false := by
  unfold nkA
  match k with
  | 0 | 1 | 2 | 3 | 4 | 5 | 6 => simp only [nkI] at h; simp [h]
  | k + 7 => simp only [nkI] at h; simp [h]
theorem nkI_all {n : Notes} {i : Nat} {x : Note} (h : ∀ k < 8, nkI n i x k = true) : nkA n i x = true := by
  have h0 := h 0 (by omega); have h1 := h 1 (by omega); have h2 := h 2 (by omega); have h3 := h 3 (by omega)
  have h4 := h 4 (by omega); have h5 := h 5 (by omega); have h6 := h 6 (by omega); have h7 := h 7 (by omega)
  simp only [nkI] at h0 h1 h2 h3 h4 h5 h6 h7
  simp [nkA, h0, h1, h2, h3, h4, h5, h6, h7]
/-- The reference's test. -/
def rnA (x : Note) : Bool := (decide (1 ≤ x.number) && decide (x.number ≤ 9999)) && (decide (0 ≤ x.day) && decide (x.day ≤ 14610)) && decide (x.signed ≤ 2) && (decide (1 ≤ x.frm) && decide (x.frm ≤ x.to)) && decide (x.to ≤ 999) && decide (x.ways ≤ 3)
def rnB (l : List Issue) (x : Note) : Bool := if x.drawing = 0 ∧ x.letter = 0 then decide (x.cancels ≠ 0) else (findI l x.drawing x.letter).isSome
def rnD (x : Note) : Bool := !(decide (x.letter < 2) && (x.useUp || decide (0 < x.ways)))
def rnT (n : Notes) (i : Nat) (x : Note) : Bool := rnA x && rnB n.reg x && rnD x && nk7 n.notes i x && nk6 n.notes i x && nk8 n.notes i x
theorem rnT_eq {n : Notes} {i : Nat} {x : Note} (h0 : checkR n.reg = 0) (hw : 0 ≤ x.ways) : rnT n i x = nkA n i x := by
  have hB : rnB n.reg x = nk4 n.reg x := by
    unfold rnB nk4 atE
    rw [if_neg (show ¬ checkR n.reg ≠ 0 by simp [h0])]
    split
    · rfl
    · cases (findI n.reg x.drawing x.letter).isSome <;> rfl
  have hC : rnD x = nk5 x := by
    unfold rnD nk5
    rw [Bool.eq_iff_iff]
    cases x.useUp <;> simp <;> omega
  have hA : rnA x = (nk1 x && nk2 x && nk3 x) := by
    unfold rnA nk1 nk2 nk3
    rw [Bool.eq_iff_iff]
    simp only [Bool.and_eq_true, decide_eq_true_eq]
    omega
  unfold rnT nkA
  rw [hA, hB, hC]
  generalize nk6 n.notes i x = a
  generalize nk7 n.notes i x = b
  cases a <;> cases b <;> simp
/-- The open notes' Numbers. -/
def openL (l : List Note) : List Int := (l.filter fun x => decide (x.signed = 1)).map (·.number)
theorem openL_snoc (l : List Note) (k : Nat) (h : k < l.length) : openL (l.take (k + 1)) = openL (l.take k) ++ (if l[k].signed = 1 then [l[k].number] else []) := by
  unfold openL
  rw [List.take_succ_eq_append_getElem h, List.filter_append, List.map_append]
  congr 1
  by_cases e : l[k].signed = 1 <;> simp [e]
theorem openL_len (l : List Note) : (openL l).length ≤ l.length := by
  unfold openL; rw [List.length_map]; exact List.length_filter_le _ _
def allOk (n : Notes) : Prop := ∀ (i : Nat) (x : Note), n.notes[i]? = some x → nkA n i x = true
def notesB (n : Notes) : Bool := decide (n.notes.length ≤ 12) && (List.range n.notes.length).all (fun i => match n.notes[i]? with | some x => nkA n i x | none => true) && decide ((openL n.notes).length ≤ 5)
def notesE (n : Notes) : Int := if checkR n.reg ≠ 0 then checkR n.reg else if notesB n then 0 else 30
theorem notesB_iff {n : Notes} : notesB n = true ↔ n.notes.length ≤ 12 ∧ allOk n ∧ (openL n.notes).length ≤ 5 := by
  simp only [notesB, Bool.and_eq_true, decide_eq_true_eq, List.all_eq_true, List.mem_range, and_assoc]
  refine and_congr_right fun _ => and_congr_left fun _ => ⟨fun h i x hx => ?_, fun h i hi => ?_⟩
  · have := h i (List.getElem?_eq_some_iff.1 hx).1
    rw [hx] at this; exact this
  · rw [List.getElem?_eq_getElem hi]
    exact h i _ (List.getElem?_eq_getElem hi)
/-- The numbers are all different. -/
theorem nums_nodup {n : Notes} (h : allOk n) : (n.notes.map (·.number)).Nodup := by
  rw [List.nodup_iff_pairwise_ne, List.pairwise_iff_getElem]
  intro i j hi hj hij
  simp only [List.length_map] at hi hj
  simp only [List.getElem_map]
  have h1 := h j _ (List.getElem?_eq_getElem hj)
  simp only [nkA, Bool.and_eq_true, nk7, Bool.not_eq_true', List.any_eq_false, decide_eq_true_eq] at h1
  refine h1.1.2 _ (List.mem_iff_getElem.2 ⟨i, by simp; omega, ?_⟩)
  simp
theorem openL_nodup {n : Notes} (h : allOk n) : (openL n.notes).Nodup := by
  have := nums_nodup h
  unfold openL
  exact this.sublist ((List.filter_sublist).map _)
/-! ### Truths -/
def truthP (o s : List Int) : Prop := ∀ (i : Nat) (v : Int), s[i]? = some v → v ∈ o ∧ ∀ j u, i = j + 1 → s[j]? = some u → u < v
def truthAt (o s : List Int) (v : Int) : Nat → Bool
  | 0 => decide (v ∈ o)
  | j + 1 => decide (v ∈ o) && (match s[j]? with | some u => decide (u < v) | none => true)
def truthB (o s : List Int) : Bool := (List.range s.length).all fun i => match s[i]? with | some v => truthAt o s v i | none => true
theorem truthB_iff {o s : List Int} : truthB o s = true ↔ truthP o s := by
  simp only [truthB, List.all_eq_true, List.mem_range]
  constructor
  · intro h i v hv
    have h1 := h i (List.getElem?_eq_some_iff.1 hv).1
    rw [hv] at h1
    simp only at h1
    cases i with
    | zero =>
      simp only [truthAt, decide_eq_true_eq] at h1
      exact ⟨h1, fun j u e => by omega⟩
    | succ i =>
      simp only [truthAt, decide_eq_true_eq, Bool.and_eq_true] at h1
      refine ⟨h1.1, fun j u e hu => ?_⟩
      obtain rfl : j = i := by omega
      rw [hu] at h1; simpa using h1.2
  · intro h i hi
    rw [List.getElem?_eq_getElem hi]
    simp only
    obtain ⟨h1, h2⟩ := h i _ (List.getElem?_eq_getElem hi)
    cases i with
    | zero => simpa only [truthAt, decide_eq_true_eq] using h1
    | succ i =>
      have hj : i < s.length := by omega
      simp only [truthAt, List.getElem?_eq_getElem hj, Bool.and_eq_true, decide_eq_true_eq]
      exact ⟨h1, h2 i _ rfl (List.getElem?_eq_getElem hj)⟩
theorem truth_bad {o s : List Int} {i : Nat} {v : Int} (h : s[i]? = some v) (hb : v ∉ o ∨ ∃ j u, i = j + 1 ∧ s[j]? = some u ∧ v ≤ u) : truthB o s = false := by
  rw [← Bool.not_eq_true, truthB_iff]
  intro ht
  obtain ⟨h1, h2⟩ := ht i v h
  rcases hb with hb | ⟨j, u, e, hu, hle⟩
  · exact hb h1
  · have := h2 j u e hu; omega
theorem truth_good {o s : List Int} (h : truthP o s) : truthB o s = true := truthB_iff.2 h
/-- What holds of the first ones. -/
def truthTo (o s : List Int) (k : Nat) : Prop := ∀ (i : Nat) (v : Int), i < k → s[i]? = some v → v ∈ o ∧ ∀ j u, i = j + 1 → s[j]? = some u → u < v
theorem truthTo_step {o s : List Int} {k : Nat} {v : Int} (h : truthTo o s k) (hv : s[k]? = some v) (ho : v ∈ o) (hl : ∀ j u, k = j + 1 → s[j]? = some u → u < v) : truthTo o s (k + 1) := by
  intro i w hi hw
  by_cases e : i = k
  · subst e; rw [hv] at hw; cases hw; exact ⟨ho, hl⟩
  · exact h i w (by omega) hw
theorem truthTo_all {o s : List Int} (h : truthTo o s s.length) : truthP o s := fun i v hv => h i v (List.getElem?_eq_some_iff.1 hv).1 hv
theorem truthTo_lt {o s : List Int} {k : Nat} (h : truthTo o s k) : ∀ (j i : Nat) (u v : Int), i < j → j < k → s[i]? = some u → s[j]? = some v → u < v
  | 0, _, _, _, h1, _, _, _ => by omega
  | j + 1, i, u, v, h1, h2, h3, h4 => by
    have hj : j < s.length := by have := (List.getElem?_eq_some_iff.1 h4).1; omega
    have hw : s[j]? = some s[j] := List.getElem?_eq_getElem hj
    have h5 := (h (j + 1) v h2 h4).2 j s[j] rfl hw
    by_cases e : i = j
    · subst e; rw [hw] at h3; cases h3; exact h5
    · have := truthTo_lt h j i u s[j] (by omega) (by omega) h3 hw; omega
/-- A number that comes behind the first ones is not among them just if it is greater than the last one. -/
theorem truthTo_new {o s : List Int} {k : Nat} {v : Int} (h : truthTo o s (k + 1)) (hk : k < s.length) (hv : s[k] < v) : v ∉ s.take (k + 1) := by
  intro hm
  obtain ⟨i, hi, e⟩ := List.mem_take_iff_getElem.1 hm
  by_cases he : i = k
  · subst he; omega
  · have := truthTo_lt h k i s[i] s[k] (by omega) (by omega) (List.getElem?_eq_getElem _) (List.getElem?_eq_getElem _); omega
end Go.Proofs
namespace Go.Ab
open Go
def isort (l : List Int) : List Int := l.mergeSort fun x y => decide (x ≤ y)
theorem isort_len (l : List Int) : (isort l).length = l.length := by simp [isort]
end Go.Ab
namespace Go.Proofs
open Go Go.Ab
set_option linter.unusedSimpArgs false
variable {G : Nat → Option (List IC)}
def SmallN (n : Notes) : Prop := Small n.reg ∧ n.notes.length ≤ 16
def smallNB (n : Notes) : Bool := open Classical in decide (Small n.reg) && decide (n.notes.length ≤ 16)
theorem great3_c (n : Notes) (objs : List DObj) : DCall Tryz.prog G 18 [notesv n] objs (fun rr objs' => rr = bv (!smallNB n) ∧ objs' = objs) := by
  refine DCall.frame ?_ (by simp) (by simp) objs
  refine DCall_intro Tryz.func18 rfl Tryz.ntmps18 (by simp) rfl ?_
  try simp only [notesv]
  have c1 := great_c (G := G) n.reg
  have hE : smallNB n = (open Classical in decide (Small n.reg) && decide (n.notes.length ≤ 16)) := rfl
  by_cases hS : Small n.reg
  · have c1' : ∀ objs, DCall Tryz.prog G 29 [regv n.reg] objs (fun d objs' => d = bv false ∧ objs' = objs) := fun objs => (c1 objs).mono fun d o ⟨h1, h2⟩ => ⟨by rw [h1]; simp [hS], h2⟩
    rw [decide_eq_true hS, Bool.true_and] at hE
    have hs : True := trivial
    repeat' first | (with_reducible first | refine q01 ?_ | refine q11 ?_ | refine q17 ?_) | (with_reducible refine At.fn_ret (by simp -dsimp [hs]; exact rfl) ?_) | (refine CallE.pure (c1') ?_; try simp -dsimp [hs]) | (with_reducible refine DT_regionE [0, 1, 2] ?_; simp -dsimp [hs])
    all_goals try simp -dsimp [hs]
    all_goals try clear hs
    rw [hE, ← decide_not, decide_eq_decide]; omega
  · have c1' : ∀ objs, DCall Tryz.prog G 29 [regv n.reg] objs (fun d objs' => d = bv true ∧ objs' = objs) := fun objs => (c1 objs).mono fun d o ⟨h1, h2⟩ => ⟨by rw [h1]; simp [hS], h2⟩
    rw [decide_eq_false hS, Bool.false_and] at hE
    have hs : True := trivial
    repeat' first | (with_reducible first | refine q01 ?_ | refine q11 ?_ | refine q17 ?_) | (with_reducible refine At.fn_ret (by simp -dsimp [hs]; exact rfl) ?_) | (refine CallE.pure (c1') ?_; try simp -dsimp [hs]) | (with_reducible refine DT_regionE [0, 1, 2] ?_; simp -dsimp [hs])
    all_goals try simp -dsimp [hs]
    all_goals try clear hs
    rw [hE]; try rfl
theorem same3_c (n : Notes) (hs : SmallN n) (objs : List DObj) : DCall Tryz.prog G 28 [notesv n, notesv n] objs (fun rr objs' => rr = bv true ∧ objs' = objs) := by
  refine DCall.frame ?_ (by simp) (by simp) objs
  refine DCall_intro Tryz.func28 rfl Tryz.ntmps28 (by simp) rfl ?_
  try simp only [notesv, notesv]
  have c1 := same_c (G := G) n.reg n.reg hs.1
  simp only [decide_true] at c1
  have hl := hs.2
  have hs : True := trivial
  repeat' first | (with_reducible first | refine q01 ?_ | refine q11 ?_ | refine q12 ?_ | refine q14 ?_) | (refine CallE.pure (c1) ?_; try simp -dsimp [hs]) | (with_reducible refine DT_regionE [0, 1, 2, 3, 4, 5, 20, 25, 38] ?_; simp -dsimp [hs]) | (refine DT_cond rfl (fun h => ?_) (fun h => ?_) <;> (try simp only [nrm] at h) <;> (try exact Bool.noConfusion h))
  all_goals try simp -dsimp [hs]
  all_goals try clear hs
  refine DT_loop (ι := { k : Nat // k ≤ n.notes.length }) (fun p => ⟨39, [(2, .one (.ptr 0 0)), (3, .one (.ptr 1 0)), (4, bv false), (5, iv (p.1 : Int))], [.row ((encNotes n).map .im), .row ((encNotes n).map .im)]⟩) (fun p => n.notes.length - p.1) ⟨0, by simp⟩ (Weak.of_keep [2,3,4,5] (by simp)) ?_
  rintro ⟨k, hk⟩
  simp only [iv, bv]
  by_cases hlt : k < n.notes.length
  · have hw : IntKind.i64.wrap ((k : Int) + 1) = ((k + 1 : Nat) : Int) := i64w (by omega) (by omega)
    generalize hx : n.notes[k] = x
    have hs : True := trivial
    repeat' first | (with_reducible first | refine q01 ?_ | refine q04 ?_ | refine q11 ?_ | refine q12 ?_ | refine q14 ?_) | (refine DT_regionM (id := 6) (nt := 39) 11 [0, 1, 2, 3, 4, 5, 20, 25, 38] mixed rfl (by kernel_rfl) ?_; simp -dsimp [hx, hlt, hw, hs]) | (with_reducible refine DT_regionE [0, 1, 2, 3, 4, 5, 20, 25, 38] ?_; simp -dsimp [hx, hlt, hw, hs]) | (refine DT_cond rfl (fun h => ?_) (fun h => ?_) <;> (try simp only [nrm] at h) <;> (try exact Bool.noConfusion h))
    all_goals try simp -dsimp [hx, hlt, hw, hs]
    all_goals try clear hs
    exact At.round ⟨k + 1, by omega⟩ (by simp; omega) (Weak.of_keep [2,3,4,5] (by simp))
  · have hs : True := trivial
    repeat' first | (with_reducible first | refine q01 ?_ | refine q03 ?_ | refine q06 ?_ | refine q11 ?_ | refine q16 ?_ | refine q17 ?_) | (with_reducible refine At.fn_ret (by simp -dsimp [hlt, hs]; exact rfl) ?_) | (with_reducible refine DT_regionE [0, 1, 2, 3, 4, 5, 20, 25, 38] ?_; simp -dsimp [hlt, hs]) | (refine DT_cond rfl (fun h => ?_) (fun h => ?_) <;> (try simp only [nrm] at h) <;> (try exact Bool.noConfusion h))
    all_goals try simp -dsimp [hlt, hs]
    all_goals try clear hs
theorem twin3_c (n : Notes) (hs : SmallN n) (objs : List DObj) : DCall Tryz.prog G 19 [notesv n] objs (fun rr objs' => rr = notesv n ∧ objs' = objs) := by
  refine DCall.frame ?_ (by simp) (by simp) objs
  refine DCall_intro Tryz.func19 rfl Tryz.ntmps19 (by simp) rfl ?_
  try simp only [notesv]
  have c1 := twin_c (G := G) n.reg hs.1
  have hl := hs.2
  have hs : True := trivial
  repeat' first | (with_reducible first | refine q01 ?_ | refine q11 ?_ | refine q17 ?_ | refine And.intro (by omega) ?_) | (with_reducible refine At.fn_ret (by simp -dsimp [hs]; exact rfl) ?_) | (refine QCall_pure (c1) ?_; try simp -dsimp [hs]) | (refine DT_regionM (id := 1) (nt := 11) 8 [0, 1, 2] mixed rfl (by kernel_rfl) ?_; simp -dsimp [hs]) | (with_reducible refine DT_regionE [0, 1, 2] ?_; simp -dsimp [hs])
  all_goals try simp -dsimp [hs]
  all_goals try clear hs
end Go.Proofs
namespace Go.Ab
open Go
def encB (b : Bool) : List IC := [rB b]
def bsv (l : List Bool) : DV := .one (.im (.sl (l.map encB)))
attribute [simp] encB bsv
def byK (l : List Note) (b : List Bool) (d : Int) : Nat → Int
  | 0 => -1
  | k + 1 => if b[k]? = some true ∧ (l[k]?.map (·.drawing)) = some d then (k : Int) else byK l b d k
theorem byK_lt (l : List Note) (b : List Bool) (d : Int) : ∀ k, -1 ≤ byK l b d k ∧ byK l b d k < k
  | 0 => by simp [byK]
  | k + 1 => by
    have := byK_lt l b d k
    unfold byK
    split <;> omega
def letterK (l : List Note) (b : List Bool) (d : Int) : Int := if byK l b d b.length < 0 then 1 else match l[(byK l b d b.length).toNat]? with | some x => x.letter | none => 0
end Go.Ab
namespace Go.Proofs
open Go Go.Ab
set_option linter.unusedSimpArgs false
variable {G : Nat → Option (List IC)}
theorem by3_c (n : Notes) (b : List Bool) (d : Int) (hb : b.length = n.notes.length) (hl : n.notes.length < 1000) (objs : List DObj) : DCall Tryz.prog G 105 [notesv n, bsv b, iv d] objs (fun rr objs' => rr = iv (byK n.notes b d b.length) ∧ objs' = objs) := by
  refine DCall.frame ?_ (by simp) (by simp) objs
  refine DCall_intro Tryz.func105 rfl Tryz.ntmps105 (by simp) rfl ?_
  try simp only [notesv, iv]
  simp only [bsv]
  have hs : True := trivial
  repeat' first | (with_reducible first | refine q01 ?_ | refine q11 ?_ | refine q12 ?_) | (with_reducible refine DT_regionE [0, 1, 2, 3, 6, 7, 8, 12, 28] ?_; simp -dsimp [hs])
  all_goals try simp -dsimp [hs]
  all_goals try clear hs
  refine DT_loop (ι := { k : Nat // k ≤ b.length }) (fun p => ⟨31, [(1, bsv b), (2, iv d), (3, .one (.ptr 0 0)), (6, iv 0), (7, iv (byK n.notes b d p.1)), (8, iv (p.1 : Int))], [.row ((encNotes n).map .im)]⟩) (fun p => b.length - p.1) ⟨0, by simp⟩ (Weak.of_keep [1,2,3,6,7,8] (by simp [byK])) ?_
  rintro ⟨k, hk⟩
  simp only [iv, bsv]
  by_cases hlt : k < b.length
  · have hlt2 : k < n.notes.length := by omega
    have hw : IntKind.i64.wrap ((k : Int) + 1) = ((k + 1 : Nat) : Int) := i64w (by omega) (by omega)
    have hst : byK n.notes b d (k + 1) = if b[k] = true ∧ n.notes[k].drawing = d then (k : Int) else byK n.notes b d k := by
      rw [byK, List.getElem?_eq_getElem hlt, List.getElem?_eq_getElem hlt2]; simp
    generalize hx : n.notes[k] = x at *
    generalize hy : b[k] = y at *
    cases y
    · simp at hst
      have hs : True := trivial
      repeat' first | (with_reducible first | refine q01 ?_ | refine q04 ?_ | refine q11 ?_ | refine q12 ?_ | refine q14 ?_) | (with_reducible refine DT_regionE [0, 1, 2, 3, 6, 7, 8, 12, 28] ?_; simp -dsimp [hx, hy, hlt, hlt2, hw, hs]) | (refine DT_cond rfl (fun h => ?_) (fun h => ?_) <;> (try simp only [nrm] at h) <;> (try exact Bool.noConfusion h))
      all_goals try simp -dsimp [hx, hy, hlt, hlt2, hw, hs]
      all_goals try clear hs
      exact At.round ⟨k + 1, by omega⟩ (by simp; omega) (Weak.of_keep [1,2,3,6,7,8] (by simp [hst]))
    · simp at hst
      have hs : True := trivial
      repeat' first | (with_reducible first | refine q01 ?_ | refine q04 ?_ | refine q11 ?_ | refine q12 ?_ | refine q14 ?_) | (with_reducible refine DT_regionE [0, 1, 2, 3, 6, 7, 8, 12, 28] ?_; simp -dsimp [hx, hy, hlt, hlt2, hw, hs]) | (refine DT_cond rfl (fun h => ?_) (fun h => ?_) <;> (try simp only [nrm] at h) <;> (try exact Bool.noConfusion h))
      all_goals try simp -dsimp [hx, hy, hlt, hlt2, hw, hs]
      all_goals try clear hs
      · exact At.round ⟨k + 1, by omega⟩ (by simp; omega) (Weak.of_keep [1,2,3,6,7,8] (by simp_all))
      · exact At.round ⟨k + 1, by omega⟩ (by simp; omega) (Weak.of_keep [1,2,3,6,7,8] (by simp_all))
  · have e : k = b.length := by omega
    have hs : True := trivial
    repeat' first | (with_reducible first | refine q01 ?_ | refine q03 ?_ | refine q06 ?_ | refine q11 ?_ | refine q16 ?_ | refine q17 ?_) | (with_reducible refine At.fn_ret (by simp -dsimp [hlt, hs]; exact rfl) ?_) | (with_reducible refine DT_regionE [0, 1, 2, 3, 6, 7, 8, 12, 28] ?_; simp -dsimp [hlt, hs]) | (refine DT_cond rfl (fun h => ?_) (fun h => ?_) <;> (try simp only [nrm] at h) <;> (try exact Bool.noConfusion h))
    all_goals try simp -dsimp [hlt, hs]
    all_goals try clear hs
    try simp [e]
end Go.Proofs
namespace Go.Proofs
open Go Go.Ab
set_option linter.unusedSimpArgs false
variable {G : Nat → Option (List IC)}
theorem letter3_c (n : Notes) (b : List Bool) (d : Int) (hb : b.length = n.notes.length) (hl : n.notes.length < 1000) (objs : List DObj) : DCall Tryz.prog G 55 [notesv n, bsv b, iv d] objs (fun rr objs' => rr = iv (letterK n.notes b d) ∧ objs' = objs) := by
  refine DCall.frame ?_ (by simp) (by simp) objs
  refine DCall_intro Tryz.func55 rfl Tryz.ntmps55 (by simp) rfl ?_
  try simp only [notesv, iv]
  simp only [bsv]
  have c1 := by3_c (G := G) n b d hb hl
  have hlt := byK_lt n.notes b d b.length
  simp only [bsv] at c1
  unfold letterK
  generalize byK n.notes b d b.length = m at *
  by_cases h00 : m < 0
  · have h01 : ¬ 0 ≤ m := by omega
    have hs : True := trivial
    repeat' first | (with_reducible first | refine q01 ?_ | refine q11 ?_ | refine q14 ?_ | refine q17 ?_) | (with_reducible refine At.fn_ret (by simp -dsimp [h00, h01, hs]; exact rfl) ?_) | (refine CallE.pure (c1) ?_; try simp -dsimp [h00, h01, hs]) | (with_reducible refine DT_regionE [0, 1, 2, 3, 6, 7, 13] ?_; simp -dsimp [h00, h01, hs]) | (refine DT_cond rfl (fun h => ?_) (fun h => ?_) <;> (try simp only [nrm] at h) <;> (try exact Bool.noConfusion h))
    all_goals try simp -dsimp [h00, h01, hs]
    all_goals try clear hs
    all_goals try omega
  · obtain ⟨j, rfl⟩ := Int.eq_ofNat_of_zero_le (show 0 ≤ m by omega)
    have hj : j < n.notes.length := by omega
    have hs : True := trivial
    repeat' first | (with_reducible first | refine q01 ?_ | refine q02 ?_ | refine q11 ?_ | refine q17 ?_) | (with_reducible refine At.fn_ret (by simp -dsimp [h00, hj, hs]; exact rfl) ?_) | (refine CallE.pure (c1) ?_; try simp -dsimp [h00, hj, hs]) | (with_reducible refine DT_regionE [0, 1, 2, 3, 6, 7, 13] ?_; simp -dsimp [h00, hj, hs]) | (refine DT_cond rfl (fun h => ?_) (fun h => ?_) <;> (try simp only [nrm] at h) <;> (try exact Bool.noConfusion h))
    all_goals try simp -dsimp [h00, hj, hs]
    all_goals try clear hs
theorem known3_c (n : Notes) (d : Int) (hl : n.reg.length < 1000) (objs : List DObj) : DCall Tryz.prog G 53 [notesv n, iv d] objs (fun rr objs' => rr = bv (decide (d ∈ nums n.reg)) ∧ objs' = objs) := by
  refine DCall.frame ?_ (by simp) (by simp) objs
  refine DCall_intro Tryz.func53 rfl Tryz.ntmps53 (by simp) rfl ?_
  try simp only [notesv, iv]
  have c1 := numbers_c (G := G) n.reg (by omega)
  have c2 := has3_c (G := G) (nums n.reg) d (by have := numsTo_length n.reg n.reg.length; unfold nums; omega)
  have hs : True := trivial
  repeat' first | (with_reducible first | refine q01 ?_ | refine q11 ?_ | refine q17 ?_) | (with_reducible refine At.fn_ret (by simp -dsimp [hs]; exact rfl) ?_) | (refine CallE.pure (c1) ?_; try simp -dsimp [hs]) | (refine CallE.pure (c2) ?_; try simp -dsimp [hs]) | (with_reducible refine DT_regionE [0, 1, 2, 4] ?_; simp -dsimp [hs])
  all_goals try simp -dsimp [hs]
  all_goals try clear hs
end Go.Proofs
