/- Part 29 of the proof whose last text closes the card: laws and walks that hold without conditions beyond those that each theorem names. -/
import Derived.Test.YtmonmfpdckdoiaaDoorB26
import Derived.Test.YtmonmfpdckdoiaaDoorB27
import Derived.Test.YtmonmfpdckdoiaaDoorB28
set_option linter.all false
set_option linter.deprecated false
namespace Go.Ab
open Go
@[simp] theorem ims_set1 (X : List (List IC)) (k : Nat) (c : IC) : (ims X).set k [DC.im c] = ims (X.set k [c]) := by
  simp only [ims, List.map_set, List.map_cons, List.map_nil]
@[simp] theorem ims_get1 (X : List (List IC)) (k : Nat) (h : k < (ims X).length) : (ims X)[k] = (X[k]'(by simpa [ims_length] using h)).map .im := by simp [ims]
theorem map_nat_set (S : List Nat) (i v : Nat) : (S.map fun j => ((j : Nat) : Int)).set i (v : Int) = (S.set i v).map fun j => ((j : Nat) : Int) := by
  rw [List.map_set]
theorem ins_swap {S : List Nat} {q k : Nat} (hq : q < S.length) : ((S.take (q + 1) ++ k :: S.drop (q + 1)).set (q + 1) S[q]).set q k = S.take q ++ k :: S.drop q := by
  have h1 : S.take (q + 1) = S.take q ++ [S[q]] := List.take_succ_eq_append_getElem hq
  have hl : (S.take q).length = q := by simp; omega
  rw [List.drop_eq_getElem_cons hq, h1, List.append_assoc, List.set_append_right _ _ (by omega), List.set_append_right _ _ (by omega)]
  congr 1
  rw [hl, show q + 1 - q = 1 by omega, show q - q = 0 by omega]
  rfl
theorem ins_at {S : List Nat} {q k : Nat} (hq : q ≤ S.length) : (S.take q ++ k :: S.drop q)[q]? = some k := by
  have hl : (S.take q).length = q := by simp; omega
  rw [List.getElem?_append_right (by omega), hl, Nat.sub_self]; rfl
theorem ins_before {S : List Nat} {q k : Nat} (hq : q < S.length) : (S.take (q + 1) ++ k :: S.drop (q + 1))[q]? = some S[q] := by
  rw [List.getElem?_append_left (by simp; omega), List.getElem?_take_of_lt (by omega), List.getElem?_eq_getElem hq]
end Go.Ab
namespace Go.Proofs
open Go Go.Ab
set_option linter.unusedSimpArgs false
variable {G : Nat → Option (List IC)}
def idxv (S : List Nat) : List Int := S.map fun j => ((j : Nat) : Int)
set_option maxHeartbeats 4000000 in
theorem open3_c (n : Notes) (hs : NSm n) (hok : allOk n) (objs : List DObj) : DCall Tryd.prog G 129 [notesv n] objs (fun rr objs' => rr = isv (idxv (openI n.notes)) ∧ objs' = objs) := by
  refine DCall.frame ?_ (by simp) (by simp) objs
  refine DCall_intro Tryd.func129 rfl Tryd.ntmps129 (by simp) rfl ?_
  try simp only [notesv]
  have hn16 := hs.2.1
  have hs : True := trivial
  repeat' first | (with_reducible first | refine q01 ?_ | refine q02 ?_ | refine q03 ?_ | refine q04 ?_ | refine q05 ?_ | refine q06 ?_ | refine q07 (by decide) ?_ | refine q08 ?_ | refine q09 ?_ | refine q10 ?_ | refine q11 ?_ | refine q12 ?_ | refine q13 ?_ | refine q14 ?_ | refine q15 ?_ | refine q16 ?_ | refine q17 ?_ | refine And.intro (by omega) ?_) | (with_reducible refine At.fn_ret (by simp -dsimp [hs]; exact rfl) ?_) | (with_reducible refine At.fn_end (by simp -dsimp [hs]; exact rfl) ?_) | (refine DT_regionM (id := 8) (nt := 72) 24 [0, 1, 2, 3, 4, 5, 6, 11, 20, 51] mixed rfl (by kernel_rfl) ?_; simp -dsimp [hs]) | (with_reducible refine DT_regionE [0, 1, 2, 3, 4, 5, 6, 11, 20, 51] ?_; simp -dsimp [hs]) | (refine DT_cond rfl (fun h => ?_) (fun h => ?_) <;> (try simp only [nrm] at h) <;> (try exact Bool.noConfusion h)) | (with_reducible refine GStop_split ?_ ?_ <;> intro h <;> have h0 := h <;> (try simp only [nrm] at h) <;> (try exact Bool.noConfusion h) <;> have h2 := h <;> (try simp at h2) <;> (replace hs := And.intro h0 (And.intro h (And.intro h2 hs))) <;> simp -dsimp [h0, h, h2, hs]) | (with_reducible refine imp_At (fun h => ?_); (try simp only [List.map_eq_nil_iff] at h); (try subst h); try simp -dsimp [hs]) | with_reducible refine And.intro ?_ ?_
  all_goals try simp -dsimp [hs]
  all_goals try clear hs
  refine DT_loop (ι := { p : Nat × Nat × Bool × List Nat // p.1 ≤ n.notes.length ∧ OpenTo n.notes p.1 p.2.2.2 }) (fun p => ⟨72, [(1, .one (.ptr 0 0)), (3, .one (.vec 2 p.1.2.1 0 (idxv p.1.2.2.2).length)), (4, iv (p.1.1 : Int))], [.row ((encNotes n).map .im), .vec 1 [] 0 true, .vec 1 (ims ((idxv p.1.2.2.2).map encI)) p.1.2.1 p.1.2.2.1]⟩) (fun p => n.notes.length - p.1.1) ⟨(0, 0, true, []), by simp, OpenTo.nil _⟩ (Weak.of_keep [1,3,4] (by simp [idxv])) ?_
  rintro ⟨⟨i, g, nl, S⟩, hi, hS⟩
  simp only at hi hS
  simp only [iv]
  have hSl := hS.len
  by_cases hlt : i < n.notes.length
  · have hw : IntKind.i64.wrap ((i : Int) + 1) = ((i + 1 : Nat) : Int) := i64w (by omega) (by omega)
    have hop : opAt n.notes i = decide (n.notes[i].signed = 1) := by simp [opAt, hlt]
    have hnu : numAt n.notes i = n.notes[i].number := by simp [numAt, hlt]
    generalize hx : n.notes[i] = x at *
    by_cases h1 : x.signed = 1
    · have hLl : (idxv S).length = S.length := by simp [idxv]
      have hw2 : IntKind.i64.wrap ((idxv S).length : Int) = ((idxv S).length : Int) := i64w (by omega) (by omega)
      rw [decide_eq_true h1] at hop
      have hs : True := trivial
      repeat' first | (with_reducible first | refine q01 ?_ | refine q02 ?_ | refine q03 ?_ | refine q04 ?_ | refine q05 ?_ | refine q06 ?_ | refine q07 (by decide) ?_ | refine q08 ?_ | refine q09 ?_ | refine q10 ?_ | refine q11 ?_ | refine q12 ?_ | refine q13 ?_ | refine q14 ?_ | refine q15 ?_ | refine q16 ?_ | refine q17 ?_ | refine And.intro (by omega) ?_) | (with_reducible refine At.fn_ret (by simp -dsimp [hx, hlt, h1, hw, hw2, hs]; exact rfl) ?_) | (with_reducible refine At.fn_end (by simp -dsimp [hx, hlt, h1, hw, hw2, hs]; exact rfl) ?_) | (refine DT_regionM (id := 8) (nt := 72) 24 [0, 1, 2, 3, 4, 5, 6, 11, 20, 51] mixed rfl (by kernel_rfl) ?_; simp -dsimp [hx, hlt, h1, hw, hw2, hs]) | (with_reducible refine DT_regionE [0, 1, 2, 3, 4, 5, 6, 11, 20, 51] ?_; simp -dsimp [hx, hlt, h1, hw, hw2, hs]) | (refine DT_cond rfl (fun h => ?_) (fun h => ?_) <;> (try simp only [nrm] at h) <;> (try exact Bool.noConfusion h)) | (with_reducible refine GStop_split ?_ ?_ <;> intro h <;> have h0 := h <;> (try simp only [nrm] at h) <;> (try exact Bool.noConfusion h) <;> have h2 := h <;> (try simp at h2) <;> (replace hs := And.intro h0 (And.intro h (And.intro h2 hs))) <;> simp -dsimp [h0, h, h2, hx, hlt, h1, hw, hw2, hs]) | (with_reducible refine imp_At (fun h => ?_); (try simp only [List.map_eq_nil_iff] at h); (try subst h); try simp -dsimp [hx, hlt, h1, hw, hw2, hs]) | with_reducible refine And.intro ?_ ?_
      all_goals try simp -dsimp [hx, hlt, h1, hw, hw2, hs]
      all_goals try clear hs
      refine DT_loop (ι := { q : Nat // q ≤ S.length ∧ ∀ j ∈ S.drop q, numAt n.notes i ≤ numAt n.notes j }) (fun p => ⟨72, [(1, .one (.ptr 0 0)), (3, .one (.vec 2 (g + 1) 0 (S.length + 1))), (4, iv (i : Int)), (5, iv (p.1 : Int))], [.row ((encNotes n).map .im), .vec 1 [] 0 true, .vec 1 (ims ((idxv (S.take p.1 ++ i :: S.drop p.1)).map encI)) (g + 1) false]⟩) (fun p => p.1) ⟨S.length, by simp⟩ (Weak.of_drop [1,3,4,5] 3 (by simp) (by simp) (by simp [hLl]; simp [idxv])) ?_
      rintro ⟨q, hq, hge⟩
      simp only [iv]
      have hLq := ins_at (k := i) hq
      have hTl : (idxv (S.take q ++ i :: S.drop q)).length = S.length + 1 := by simp [idxv]; omega
      have hLi : (idxv (S.take q ++ i :: S.drop q))[q]? = some (i : Int) := by rw [idxv, List.getElem?_map, hLq]; rfl
      by_cases h0 : q = 0
      · subst h0
        have hput := hS.put hop 0 (by simp) hge
        have hs : True := trivial
        repeat' first | (with_reducible first | refine q01 ?_ | refine q02 ?_ | refine q03 ?_ | refine q04 ?_ | refine q05 ?_ | refine q06 ?_ | refine q07 (by decide) ?_ | refine q08 ?_ | refine q09 ?_ | refine q10 ?_ | refine q11 ?_ | refine q12 ?_ | refine q13 ?_ | refine q14 ?_ | refine q15 ?_ | refine q16 ?_ | refine q17 ?_ | refine And.intro (by omega) ?_) | (with_reducible refine At.fn_ret (by simp -dsimp [hw, hx, hlt, hs]; exact rfl) ?_) | (with_reducible refine At.fn_end (by simp -dsimp [hw, hx, hlt, hs]; exact rfl) ?_) | (refine DT_regionM (id := 8) (nt := 72) 24 [0, 1, 2, 3, 4, 5, 6, 11, 20, 51] mixed rfl (by kernel_rfl) ?_; simp -dsimp [hw, hx, hlt, hs]) | (with_reducible refine DT_regionE [0, 1, 2, 3, 4, 5, 6, 11, 20, 51] ?_; simp -dsimp [hw, hx, hlt, hs]) | (refine DT_cond rfl (fun h => ?_) (fun h => ?_) <;> (try simp only [nrm] at h) <;> (try exact Bool.noConfusion h)) | (with_reducible refine GStop_split ?_ ?_ <;> intro h <;> have h0 := h <;> (try simp only [nrm] at h) <;> (try exact Bool.noConfusion h) <;> have h2 := h <;> (try simp at h2) <;> (replace hs := And.intro h0 (And.intro h (And.intro h2 hs))) <;> simp -dsimp [h0, h, h2, hw, hx, hlt, hs]) | (with_reducible refine imp_At (fun h => ?_); (try simp only [List.map_eq_nil_iff] at h); (try subst h); try simp -dsimp [hw, hx, hlt, hs]) | with_reducible refine And.intro ?_ ?_
        all_goals try simp -dsimp [hw, hx, hlt, hs]
        all_goals try clear hs
        exact At.round ⟨(i + 1, g + 1, false, S.take 0 ++ i :: S.drop 0), by omega, hput⟩ (by simp; omega) (Weak.of_keep [1,3,4] (by simp [idxv]))
      · obtain ⟨r, rfl⟩ : ∃ r, q = r + 1 := ⟨q - 1, by omega⟩
        have hr : r < S.length := by omega
        have hb := ins_before (k := i) hr
        have hLr : (idxv (S.take (r + 1) ++ i :: S.drop (r + 1)))[r]? = some (S[r] : Int) := by rw [idxv, List.getElem?_map, hb]; rfl
        have hsw := ins_swap (k := i) hr
        have hLs : ((idxv (S.take (r + 1) ++ i :: S.drop (r + 1))).set (r + 1) (S[r] : Int)).set r (i : Int) = idxv (S.take r ++ i :: S.drop r) := by
          rw [idxv, map_nat_set, map_nat_set, hsw]; rfl
        have hj := (hS.lt S[r] (List.getElem_mem hr)).1
        have hjl : S[r] < n.notes.length := by omega
        have hju : numAt n.notes S[r] = n.notes[S[r]].number := by simp [numAt, hjl]
        have hdr := List.drop_eq_getElem_cons hr
        have hfirst := fun (v : Int) h => hS.first hr (v := v) h
        have hput := fun h => hS.put hop (r + 1) h hge
        have hq1 : ((r + 1 : Nat) : Int) - 1 = (r : Int) := by omega
        have hwr : IntKind.i64.wrap (r : Int) = (r : Int) := i64w (by omega) (by omega)
        have hr1 : r < S.length + 1 := by omega
        have hp0 : (0 : Int) ≤ (r : Int) + 1 := by omega
        have hp1 : (0 : Int) < (r : Int) + 1 := by omega
        have hwr1 : IntKind.i64.wrap ((r : Int) + 1 - 1) = (r : Int) := i64w (by omega) (by omega) |>.trans (by omega)
        generalize S[r] = j at *
        generalize hy : n.notes[j] = y at *
        generalize hL : idxv (S.take (r + 1) ++ i :: S.drop (r + 1)) = L at *
        obtain ⟨_, hLre⟩ := List.getElem?_eq_some_iff.1 hLr
        obtain ⟨_, hLie⟩ := List.getElem?_eq_some_iff.1 hLi
        have hs : True := trivial
        repeat' first | (with_reducible first | refine q01 ?_ | refine q02 ?_ | refine q03 ?_ | refine q04 ?_ | refine q05 ?_ | refine q06 ?_ | refine q07 (by decide) ?_ | refine q08 ?_ | refine q09 ?_ | refine q10 ?_ | refine q11 ?_ | refine q12 ?_ | refine q13 ?_ | refine q14 ?_ | refine q15 ?_ | refine q16 ?_ | refine q17 ?_ | refine And.intro (by omega) ?_) | (with_reducible refine At.fn_ret (by simp -dsimp [hw, hx, hlt, hy, hjl, hLie, hLre, hwr, hTl, hr, hr1, hp0, hp1, hwr1, hs]; exact rfl) ?_) | (with_reducible refine At.fn_end (by simp -dsimp [hw, hx, hlt, hy, hjl, hLie, hLre, hwr, hTl, hr, hr1, hp0, hp1, hwr1, hs]; exact rfl) ?_) | (refine DT_regionM (id := 8) (nt := 72) 24 [0, 1, 2, 3, 4, 5, 6, 11, 20, 51] mixed rfl (by kernel_rfl) ?_; simp -dsimp [hw, hx, hlt, hy, hjl, hLie, hLre, hwr, hTl, hr, hr1, hp0, hp1, hwr1, hs]) | (with_reducible refine DT_regionE [0, 1, 2, 3, 4, 5, 6, 11, 20, 51] ?_; simp -dsimp [hw, hx, hlt, hy, hjl, hLie, hLre, hwr, hTl, hr, hr1, hp0, hp1, hwr1, hs]) | (refine DT_cond rfl (fun h => ?_) (fun h => ?_) <;> (try simp only [nrm] at h) <;> (try exact Bool.noConfusion h)) | (with_reducible refine GStop_split ?_ ?_ <;> intro h <;> have h0 := h <;> (try simp only [nrm] at h) <;> (try exact Bool.noConfusion h) <;> have h2 := h <;> (try simp at h2) <;> (replace hs := And.intro h0 (And.intro h (And.intro h2 hs))) <;> simp -dsimp [h0, h, h2, hw, hx, hlt, hy, hjl, hLie, hLre, hwr, hTl, hr, hr1, hp0, hp1, hwr1, hs]) | (with_reducible refine imp_At (fun h => ?_); (try simp only [List.map_eq_nil_iff] at h); (try subst h); try simp -dsimp [hw, hx, hlt, hy, hjl, hLie, hLre, hwr, hTl, hr, hr1, hp0, hp1, hwr1, hs]) | with_reducible refine And.intro ?_ ?_
        all_goals try simp -dsimp [hw, hx, hlt, hy, hjl, hLie, hLre, hwr, hTl, hr, hr1, hp0, hp1, hwr1, hs]
        all_goals try clear hs
        · exact At.round ⟨r, by omega, fun z hz => by
            rw [hdr] at hz
            rcases List.mem_cons.1 hz with rfl | hz
            · omega
            · exact hge z hz⟩ (by simp) (Weak.of_keep [1,3,4,5] (by simp [← hLs]))
        · exact At.round ⟨(i + 1, g + 1, false, S.take (r + 1) ++ i :: S.drop (r + 1)), by omega, hput (hfirst _ (by omega))⟩ (by simp; omega) (Weak.of_keep [1,3,4] (by simp [hL, hTl]))
    · rw [decide_eq_false h1] at hop
      have hs : True := trivial
      repeat' first | (with_reducible first | refine q01 ?_ | refine q02 ?_ | refine q03 ?_ | refine q04 ?_ | refine q05 ?_ | refine q06 ?_ | refine q07 (by decide) ?_ | refine q08 ?_ | refine q09 ?_ | refine q10 ?_ | refine q11 ?_ | refine q12 ?_ | refine q13 ?_ | refine q14 ?_ | refine q15 ?_ | refine q16 ?_ | refine q17 ?_ | refine And.intro (by omega) ?_) | (with_reducible refine At.fn_ret (by simp -dsimp [hx, hlt, h1, hw, hs]; exact rfl) ?_) | (with_reducible refine At.fn_end (by simp -dsimp [hx, hlt, h1, hw, hs]; exact rfl) ?_) | (refine DT_regionM (id := 8) (nt := 72) 24 [0, 1, 2, 3, 4, 5, 6, 11, 20, 51] mixed rfl (by kernel_rfl) ?_; simp -dsimp [hx, hlt, h1, hw, hs]) | (with_reducible refine DT_regionE [0, 1, 2, 3, 4, 5, 6, 11, 20, 51] ?_; simp -dsimp [hx, hlt, h1, hw, hs]) | (refine DT_cond rfl (fun h => ?_) (fun h => ?_) <;> (try simp only [nrm] at h) <;> (try exact Bool.noConfusion h)) | (with_reducible refine GStop_split ?_ ?_ <;> intro h <;> have h0 := h <;> (try simp only [nrm] at h) <;> (try exact Bool.noConfusion h) <;> have h2 := h <;> (try simp at h2) <;> (replace hs := And.intro h0 (And.intro h (And.intro h2 hs))) <;> simp -dsimp [h0, h, h2, hx, hlt, h1, hw, hs]) | (with_reducible refine imp_At (fun h => ?_); (try simp only [List.map_eq_nil_iff] at h); (try subst h); try simp -dsimp [hx, hlt, h1, hw, hs]) | with_reducible refine And.intro ?_ ?_
      all_goals try simp -dsimp [hx, hlt, h1, hw, hs]
      all_goals try clear hs
      exact At.round ⟨(i + 1, g, nl, S), by omega, hS.skip hop⟩ (by simp; omega) (Weak.of_keep [1,3,4] (by simp))
  · obtain rfl : i = n.notes.length := by omega
    obtain rfl := openI_eq hok hS
    have hs : True := trivial
    repeat' first | (with_reducible first | refine q01 ?_ | refine q02 ?_ | refine q03 ?_ | refine q04 ?_ | refine q05 ?_ | refine q06 ?_ | refine q07 (by decide) ?_ | refine q08 ?_ | refine q09 ?_ | refine q10 ?_ | refine q11 ?_ | refine q12 ?_ | refine q13 ?_ | refine q14 ?_ | refine q15 ?_ | refine q16 ?_ | refine q17 ?_ | refine And.intro (by omega) ?_) | (with_reducible refine At.fn_ret (by simp -dsimp [hlt, hs]; exact rfl) ?_) | (with_reducible refine At.fn_end (by simp -dsimp [hlt, hs]; exact rfl) ?_) | (refine DT_regionM (id := 8) (nt := 72) 24 [0, 1, 2, 3, 4, 5, 6, 11, 20, 51] mixed rfl (by kernel_rfl) ?_; simp -dsimp [hlt, hs]) | (with_reducible refine DT_regionE [0, 1, 2, 3, 4, 5, 6, 11, 20, 51] ?_; simp -dsimp [hlt, hs]) | (refine DT_cond rfl (fun h => ?_) (fun h => ?_) <;> (try simp only [nrm] at h) <;> (try exact Bool.noConfusion h)) | (with_reducible refine GStop_split ?_ ?_ <;> intro h <;> have h0 := h <;> (try simp only [nrm] at h) <;> (try exact Bool.noConfusion h) <;> have h2 := h <;> (try simp at h2) <;> (replace hs := And.intro h0 (And.intro h (And.intro h2 hs))) <;> simp -dsimp [h0, h, h2, hlt, hs]) | (with_reducible refine imp_At (fun h => ?_); (try simp only [List.map_eq_nil_iff] at h); (try subst h); try simp -dsimp [hlt, hs]) | with_reducible refine And.intro ?_ ?_
    all_goals try simp -dsimp [hlt, hs]
    all_goals try clear hs
    all_goals simp [idxv]
end Go.Proofs
namespace Go.Proofs
open Go Go.Ab
set_option linter.unusedSimpArgs false
variable {G : Nat → Option (List IC)}
set_option maxHeartbeats 2000000 in
theorem truth3_c (n : Notes) (s : List Int) (hs : NSm n) (hok : allOk n) (hsl : s.length < 1000) (objs : List DObj) : DCall Tryd.prog G 100 [notesv n, isv s] objs (fun rr objs' => rr = bv (truthB (isort (openL n.notes)) s) ∧ objs' = objs) := by
  refine DCall.frame ?_ (by simp) (by simp) objs
  refine DCall_intro Tryd.func100 rfl Tryd.ntmps100 (by simp) rfl ?_
  try simp only [notesv, isv]
  have hn16 := hs.2.1
  have c1 := open3_c (G := G) n hs hok
  have hnu := openI_nums (n := n)
  have hol := (openI_to n.notes).len
  have hOl : (isort (openL n.notes)).length = (openI n.notes).length := by rw [← hnu, List.length_map]
  generalize hO : isort (openL n.notes) = O at *
  have hs : True := trivial
  repeat' first | (with_reducible first | refine q01 ?_ | refine q02 ?_ | refine q03 ?_ | refine q04 ?_ | refine q05 ?_ | refine q06 ?_ | refine q07 (by decide) ?_ | refine q08 ?_ | refine q09 ?_ | refine q10 ?_ | refine q11 ?_ | refine q12 ?_ | refine q13 ?_ | refine q14 ?_ | refine q15 ?_ | refine q16 ?_ | refine q17 ?_ | refine And.intro (by omega) ?_) | (with_reducible refine At.fn_ret (by simp -dsimp [hs]; exact rfl) ?_) | (with_reducible refine At.fn_end (by simp -dsimp [hs]; exact rfl) ?_) | (refine CallE.pure (c1) ?_; try simp -dsimp [hs]) | (refine DT_regionM (id := 6) (nt := 58) 11 [0, 1, 2, 4, 5, 6, 7, 8, 14, 32, 57] mixed rfl (by kernel_rfl) ?_; simp -dsimp [hs]) | (refine DT_regionM (id := 10) (nt := 58) 23 [0, 1, 2, 4, 5, 6, 7, 8, 14, 32, 57] mixed rfl (by kernel_rfl) ?_; simp -dsimp [hs]) | (with_reducible refine DT_regionE [0, 1, 2, 4, 5, 6, 7, 8, 14, 32, 57] ?_; simp -dsimp [hs]) | (refine DT_cond rfl (fun h => ?_) (fun h => ?_) <;> (try simp only [nrm] at h) <;> (try exact Bool.noConfusion h)) | (with_reducible refine GStop_split ?_ ?_ <;> intro h <;> have h0 := h <;> (try simp only [nrm] at h) <;> (try exact Bool.noConfusion h) <;> have h2 := h <;> (try simp at h2) <;> (replace hs := And.intro h0 (And.intro h (And.intro h2 hs))) <;> simp -dsimp [h0, h, h2, hs]) | (with_reducible refine imp_At (fun h => ?_); (try simp only [List.map_eq_nil_iff] at h); (try subst h); try simp -dsimp [hs]) | with_reducible refine And.intro ?_ ?_
  all_goals try simp -dsimp [hs]
  all_goals try clear hs
  refine DT_loop (ι := { p : Nat × Nat × Bool // p.1 ≤ (openI n.notes).length }) (fun p => ⟨58, [(1, isv s), (2, .one (.ptr 0 0)), (5, .one (.vec 1 p.1.2.1 0 (O.take p.1.1).length)), (6, isv (idxv (openI n.notes))), (7, iv (p.1.1 : Int))], [.row ((encNotes n).map .im), .vec 1 (ims ((O.take p.1.1).map encI)) p.1.2.1 p.1.2.2]⟩) (fun p => (openI n.notes).length - p.1.1) ⟨(0, 0, true), by simp⟩ (Weak.of_keep [1,2,5,6,7] (by simp [idxv])) ?_
  rintro ⟨⟨j, g, nl⟩, hj⟩
  simp only at hj
  simp only [iv, isv]
  have hil : (idxv (openI n.notes)).length = (openI n.notes).length := by simp [idxv]
  by_cases hlt : j < (openI n.notes).length
  · have hw : IntKind.i64.wrap ((j : Int) + 1) = ((j + 1 : Nat) : Int) := i64w (by omega) (by omega)
    have hjO : j < O.length := by omega
    have hst : O.take (j + 1) = O.take j ++ [O[j]] := List.take_succ_eq_append_getElem hjO
    have htl : (O.take j).length = j := by simp; omega
    have hie : (idxv (openI n.notes))[j]? = some ((openI n.notes)[j] : Int) := by simp [idxv, hlt]
    obtain ⟨hil2, hie⟩ := List.getElem?_eq_some_iff.1 hie
    have hkl := openI_lt (List.getElem_mem hlt)
    have hOj : O[j] = n.notes[(openI n.notes)[j]].number := by
      have : O[j]? = some (numAt n.notes (openI n.notes)[j]) := by rw [← hnu, List.getElem?_map, List.getElem?_eq_getElem hlt]; rfl
      rw [List.getElem?_eq_getElem hjO] at this
      rw [Option.some.inj this]; simp [numAt, hkl]
    rw [hOj] at hst
    generalize (openI n.notes)[j] = k at *
    generalize hx : n.notes[k] = x at *
    generalize idxv (openI n.notes) = I at *
    generalize O.take j = L at *
    subst htl
    have hs : True := trivial
    repeat' first | (with_reducible first | refine q01 ?_ | refine q02 ?_ | refine q03 ?_ | refine q04 ?_ | refine q05 ?_ | refine q06 ?_ | refine q07 (by decide) ?_ | refine q08 ?_ | refine q09 ?_ | refine q10 ?_ | refine q11 ?_ | refine q12 ?_ | refine q13 ?_ | refine q14 ?_ | refine q15 ?_ | refine q16 ?_ | refine q17 ?_ | refine And.intro (by omega) ?_) | (with_reducible refine At.fn_ret (by simp -dsimp [hx, hkl, hlt, hw, hie, hil, hil2, hs]; exact rfl) ?_) | (with_reducible refine At.fn_end (by simp -dsimp [hx, hkl, hlt, hw, hie, hil, hil2, hs]; exact rfl) ?_) | (refine DT_regionM (id := 6) (nt := 58) 11 [0, 1, 2, 4, 5, 6, 7, 8, 14, 32, 57] mixed rfl (by kernel_rfl) ?_; simp -dsimp [hx, hkl, hlt, hw, hie, hil, hil2, hs]) | (refine DT_regionM (id := 10) (nt := 58) 23 [0, 1, 2, 4, 5, 6, 7, 8, 14, 32, 57] mixed rfl (by kernel_rfl) ?_; simp -dsimp [hx, hkl, hlt, hw, hie, hil, hil2, hs]) | (with_reducible refine DT_regionE [0, 1, 2, 4, 5, 6, 7, 8, 14, 32, 57] ?_; simp -dsimp [hx, hkl, hlt, hw, hie, hil, hil2, hs]) | (refine DT_cond rfl (fun h => ?_) (fun h => ?_) <;> (try simp only [nrm] at h) <;> (try exact Bool.noConfusion h)) | (with_reducible refine GStop_split ?_ ?_ <;> intro h <;> have h0 := h <;> (try simp only [nrm] at h) <;> (try exact Bool.noConfusion h) <;> have h2 := h <;> (try simp at h2) <;> (replace hs := And.intro h0 (And.intro h (And.intro h2 hs))) <;> simp -dsimp [h0, h, h2, hx, hkl, hlt, hw, hie, hil, hil2, hs]) | (with_reducible refine imp_At (fun h => ?_); (try simp only [List.map_eq_nil_iff] at h); (try subst h); try simp -dsimp [hx, hkl, hlt, hw, hie, hil, hil2, hs]) | with_reducible refine And.intro ?_ ?_
    all_goals try simp -dsimp [hx, hkl, hlt, hw, hie, hil, hil2, hs]
    all_goals try clear hs
    all_goals exact At.round ⟨(L.length + 1, g + 1, false), by omega⟩ (by simp; omega) (Weak.of_drop [1,2,5,6,7] 2 (by simp) (by simp) (by simp [hst]))
  · obtain rfl : j = (openI n.notes).length := by omega
    rw [show O.take (openI n.notes).length = O from List.take_of_length_le (by omega)]
    have hs : True := trivial
    repeat' first | (with_reducible first | refine q01 ?_ | refine q02 ?_ | refine q03 ?_ | refine q04 ?_ | refine q05 ?_ | refine q06 ?_ | refine q07 (by decide) ?_ | refine q08 ?_ | refine q09 ?_ | refine q10 ?_ | refine q11 ?_ | refine q12 ?_ | refine q13 ?_ | refine q14 ?_ | refine q15 ?_ | refine q16 ?_ | refine q17 ?_ | refine And.intro (by omega) ?_) | (with_reducible refine At.fn_ret (by simp -dsimp [hlt, hil, hs]; exact rfl) ?_) | (with_reducible refine At.fn_end (by simp -dsimp [hlt, hil, hs]; exact rfl) ?_) | (refine DT_regionM (id := 6) (nt := 58) 11 [0, 1, 2, 4, 5, 6, 7, 8, 14, 32, 57] mixed rfl (by kernel_rfl) ?_; simp -dsimp [hlt, hil, hs]) | (refine DT_regionM (id := 10) (nt := 58) 23 [0, 1, 2, 4, 5, 6, 7, 8, 14, 32, 57] mixed rfl (by kernel_rfl) ?_; simp -dsimp [hlt, hil, hs]) | (with_reducible refine DT_regionE [0, 1, 2, 4, 5, 6, 7, 8, 14, 32, 57] ?_; simp -dsimp [hlt, hil, hs]) | (refine DT_cond rfl (fun h => ?_) (fun h => ?_) <;> (try simp only [nrm] at h) <;> (try exact Bool.noConfusion h)) | (with_reducible refine GStop_split ?_ ?_ <;> intro h <;> have h0 := h <;> (try simp only [nrm] at h) <;> (try exact Bool.noConfusion h) <;> have h2 := h <;> (try simp at h2) <;> (replace hs := And.intro h0 (And.intro h (And.intro h2 hs))) <;> simp -dsimp [h0, h, h2, hlt, hil, hs]) | (with_reducible refine imp_At (fun h => ?_); (try simp only [List.map_eq_nil_iff] at h); (try subst h); try simp -dsimp [hlt, hil, hs]) | with_reducible refine And.intro ?_ ?_
    all_goals try simp -dsimp [hlt, hil, hs]
    all_goals try clear hs
    refine DT_loop (ι := { i : Nat // i ≤ s.length ∧ truthTo O s i }) (fun p => ⟨58, [(1, isv s), (5, isv O), (8, iv (p.1 : Int))], [.row ((encNotes n).map .im)]⟩) (fun p => s.length - p.1) ⟨0, by simp, fun i v h => by omega⟩ (Weak.of_drop [1,5,8] 1 (by simp) (by simp) (by simp)) ?_
    rintro ⟨i, hi, hto⟩
    simp only [iv, isv]
    by_cases hlt2 : i < s.length
    · have hx0 : s[i]? = some s[i] := by simp [hlt2]
      have hw : IntKind.i64.wrap ((i : Int) + 1) = ((i + 1 : Nat) : Int) := i64w (by omega) (by omega)
      have c2 := has3_c (G := G) O s[i] (by omega)
      generalize hv : s[i] = v at *
      by_cases hmem : v ∈ O
      · rw [decide_eq_true hmem] at c2
        by_cases h00 : i = 0
        · have hnext := truthTo_step hto hx0 hmem (fun j u e => by omega)
          subst h00
          have hs : True := trivial
          repeat' first | (with_reducible first | refine q01 ?_ | refine q02 ?_ | refine q03 ?_ | refine q04 ?_ | refine q05 ?_ | refine q06 ?_ | refine q07 (by decide) ?_ | refine q08 ?_ | refine q09 ?_ | refine q10 ?_ | refine q11 ?_ | refine q12 ?_ | refine q13 ?_ | refine q14 ?_ | refine q15 ?_ | refine q16 ?_ | refine q17 ?_ | refine And.intro (by omega) ?_) | (with_reducible refine At.fn_ret (by simp -dsimp [hv, hlt2, hs]; exact rfl) ?_) | (with_reducible refine At.fn_end (by simp -dsimp [hv, hlt2, hs]; exact rfl) ?_) | (refine CallE.pure (c2) ?_; try simp -dsimp [hv, hlt2, hs]) | (refine QCall_pure (c2) ?_; try simp -dsimp [hv, hlt2, hs]) | (refine DT_regionM (id := 6) (nt := 58) 11 [0, 1, 2, 4, 5, 6, 7, 8, 14, 32, 57] mixed rfl (by kernel_rfl) ?_; simp -dsimp [hv, hlt2, hs]) | (refine DT_regionM (id := 10) (nt := 58) 23 [0, 1, 2, 4, 5, 6, 7, 8, 14, 32, 57] mixed rfl (by kernel_rfl) ?_; simp -dsimp [hv, hlt2, hs]) | (with_reducible refine DT_regionE [0, 1, 2, 4, 5, 6, 7, 8, 14, 32, 57] ?_; simp -dsimp [hv, hlt2, hs]) | (refine DT_cond rfl (fun h => ?_) (fun h => ?_) <;> (try simp only [nrm] at h) <;> (try exact Bool.noConfusion h)) | (with_reducible refine GStop_split ?_ ?_ <;> intro h <;> have h0 := h <;> (try simp only [nrm] at h) <;> (try exact Bool.noConfusion h) <;> have h2 := h <;> (try simp at h2) <;> (replace hs := And.intro h0 (And.intro h (And.intro h2 hs))) <;> simp -dsimp [h0, h, h2, hv, hlt2, hs]) | (with_reducible refine imp_At (fun h => ?_); (try simp only [List.map_eq_nil_iff] at h); (try subst h); try simp -dsimp [hv, hlt2, hs]) | with_reducible refine And.intro ?_ ?_
          all_goals try simp -dsimp [hv, hlt2, hs]
          all_goals try clear hs
          exact At.round ⟨0 + 1, by omega, hnext⟩ (by simp; omega) (Weak.of_keep [1,5,8] (by simp; exact i64w (by omega) (by omega)))
        · have hq : i - 1 < s.length := by omega
          have hwq : IntKind.i64.wrap ((i : Int) - 1) = ((i - 1 : Nat) : Int) := by rw [i64w (by omega) (by omega)]; omega
          have hi0 : (0 : Int) < (i : Int) := by omega
          have hin0 : 0 < i := by omega
          have hu0 : s[i - 1]? = some s[i - 1] := by simp [hq]
          generalize hu : s[i - 1] = u at *
          by_cases hlu : v ≤ u
          · have hb := truth_bad (o := O) hx0 (.inr ⟨i - 1, u, by omega, hu0, hlu⟩)
            have hs : True := trivial
            repeat' first | (with_reducible first | refine q01 ?_ | refine q02 ?_ | refine q03 ?_ | refine q04 ?_ | refine q05 ?_ | refine q06 ?_ | refine q07 (by decide) ?_ | refine q08 ?_ | refine q09 ?_ | refine q10 ?_ | refine q11 ?_ | refine q12 ?_ | refine q13 ?_ | refine q14 ?_ | refine q15 ?_ | refine q16 ?_ | refine q17 ?_ | refine And.intro (by omega) ?_) | (with_reducible refine At.fn_ret (by simp -dsimp [hv, hu, hq, hlt2, hw, hwq, hi0, hin0, hlu, hs]; exact rfl) ?_) | (with_reducible refine At.fn_end (by simp -dsimp [hv, hu, hq, hlt2, hw, hwq, hi0, hin0, hlu, hs]; exact rfl) ?_) | (refine CallE.pure (c2) ?_; try simp -dsimp [hv, hu, hq, hlt2, hw, hwq, hi0, hin0, hlu, hs]) | (refine QCall_pure (c2) ?_; try simp -dsimp [hv, hu, hq, hlt2, hw, hwq, hi0, hin0, hlu, hs]) | (refine DT_regionM (id := 6) (nt := 58) 11 [0, 1, 2, 4, 5, 6, 7, 8, 14, 32, 57] mixed rfl (by kernel_rfl) ?_; simp -dsimp [hv, hu, hq, hlt2, hw, hwq, hi0, hin0, hlu, hs]) | (refine DT_regionM (id := 10) (nt := 58) 23 [0, 1, 2, 4, 5, 6, 7, 8, 14, 32, 57] mixed rfl (by kernel_rfl) ?_; simp -dsimp [hv, hu, hq, hlt2, hw, hwq, hi0, hin0, hlu, hs]) | (with_reducible refine DT_regionE [0, 1, 2, 4, 5, 6, 7, 8, 14, 32, 57] ?_; simp -dsimp [hv, hu, hq, hlt2, hw, hwq, hi0, hin0, hlu, hs]) | (refine DT_cond rfl (fun h => ?_) (fun h => ?_) <;> (try simp only [nrm] at h) <;> (try exact Bool.noConfusion h)) | (with_reducible refine GStop_split ?_ ?_ <;> intro h <;> have h0 := h <;> (try simp only [nrm] at h) <;> (try exact Bool.noConfusion h) <;> have h2 := h <;> (try simp at h2) <;> (replace hs := And.intro h0 (And.intro h (And.intro h2 hs))) <;> simp -dsimp [h0, h, h2, hv, hu, hq, hlt2, hw, hwq, hi0, hin0, hlu, hs]) | (with_reducible refine imp_At (fun h => ?_); (try simp only [List.map_eq_nil_iff] at h); (try subst h); try simp -dsimp [hv, hu, hq, hlt2, hw, hwq, hi0, hin0, hlu, hs]) | with_reducible refine And.intro ?_ ?_
            all_goals try simp -dsimp [hv, hu, hq, hlt2, hw, hwq, hi0, hin0, hlu, hs]
            all_goals try clear hs
            all_goals simp [hb]
          · have hnext := truthTo_step hto hx0 hmem (fun j u' e hu' => by
              obtain rfl : i - 1 = j := by omega
              rw [hu0] at hu'; cases hu'; omega)
            have hs : True := trivial
            repeat' first | (with_reducible first | refine q01 ?_ | refine q02 ?_ | refine q03 ?_ | refine q04 ?_ | refine q05 ?_ | refine q06 ?_ | refine q07 (by decide) ?_ | refine q08 ?_ | refine q09 ?_ | refine q10 ?_ | refine q11 ?_ | refine q12 ?_ | refine q13 ?_ | refine q14 ?_ | refine q15 ?_ | refine q16 ?_ | refine q17 ?_ | refine And.intro (by omega) ?_) | (with_reducible refine At.fn_ret (by simp -dsimp [hv, hu, hq, hlt2, hw, hwq, hi0, hin0, hlu, hs]; exact rfl) ?_) | (with_reducible refine At.fn_end (by simp -dsimp [hv, hu, hq, hlt2, hw, hwq, hi0, hin0, hlu, hs]; exact rfl) ?_) | (refine CallE.pure (c2) ?_; try simp -dsimp [hv, hu, hq, hlt2, hw, hwq, hi0, hin0, hlu, hs]) | (refine QCall_pure (c2) ?_; try simp -dsimp [hv, hu, hq, hlt2, hw, hwq, hi0, hin0, hlu, hs]) | (refine DT_regionM (id := 6) (nt := 58) 11 [0, 1, 2, 4, 5, 6, 7, 8, 14, 32, 57] mixed rfl (by kernel_rfl) ?_; simp -dsimp [hv, hu, hq, hlt2, hw, hwq, hi0, hin0, hlu, hs]) | (refine DT_regionM (id := 10) (nt := 58) 23 [0, 1, 2, 4, 5, 6, 7, 8, 14, 32, 57] mixed rfl (by kernel_rfl) ?_; simp -dsimp [hv, hu, hq, hlt2, hw, hwq, hi0, hin0, hlu, hs]) | (with_reducible refine DT_regionE [0, 1, 2, 4, 5, 6, 7, 8, 14, 32, 57] ?_; simp -dsimp [hv, hu, hq, hlt2, hw, hwq, hi0, hin0, hlu, hs]) | (refine DT_cond rfl (fun h => ?_) (fun h => ?_) <;> (try simp only [nrm] at h) <;> (try exact Bool.noConfusion h)) | (with_reducible refine GStop_split ?_ ?_ <;> intro h <;> have h0 := h <;> (try simp only [nrm] at h) <;> (try exact Bool.noConfusion h) <;> have h2 := h <;> (try simp at h2) <;> (replace hs := And.intro h0 (And.intro h (And.intro h2 hs))) <;> simp -dsimp [h0, h, h2, hv, hu, hq, hlt2, hw, hwq, hi0, hin0, hlu, hs]) | (with_reducible refine imp_At (fun h => ?_); (try simp only [List.map_eq_nil_iff] at h); (try subst h); try simp -dsimp [hv, hu, hq, hlt2, hw, hwq, hi0, hin0, hlu, hs]) | with_reducible refine And.intro ?_ ?_
            all_goals try simp -dsimp [hv, hu, hq, hlt2, hw, hwq, hi0, hin0, hlu, hs]
            all_goals try clear hs
            exact At.round ⟨i + 1, by omega, hnext⟩ (by simp; omega) (Weak.of_keep [1,5,8] (by simp))
      · rw [decide_eq_false hmem] at c2
        have hb := truth_bad (o := O) hx0 (.inl hmem)
        have hs : True := trivial
        repeat' first | (with_reducible first | refine q01 ?_ | refine q02 ?_ | refine q03 ?_ | refine q04 ?_ | refine q05 ?_ | refine q06 ?_ | refine q07 (by decide) ?_ | refine q08 ?_ | refine q09 ?_ | refine q10 ?_ | refine q11 ?_ | refine q12 ?_ | refine q13 ?_ | refine q14 ?_ | refine q15 ?_ | refine q16 ?_ | refine q17 ?_ | refine And.intro (by omega) ?_) | (with_reducible refine At.fn_ret (by simp -dsimp [hv, hlt2, hs]; exact rfl) ?_) | (with_reducible refine At.fn_end (by simp -dsimp [hv, hlt2, hs]; exact rfl) ?_) | (refine CallE.pure (c2) ?_; try simp -dsimp [hv, hlt2, hs]) | (refine QCall_pure (c2) ?_; try simp -dsimp [hv, hlt2, hs]) | (refine DT_regionM (id := 6) (nt := 58) 11 [0, 1, 2, 4, 5, 6, 7, 8, 14, 32, 57] mixed rfl (by kernel_rfl) ?_; simp -dsimp [hv, hlt2, hs]) | (refine DT_regionM (id := 10) (nt := 58) 23 [0, 1, 2, 4, 5, 6, 7, 8, 14, 32, 57] mixed rfl (by kernel_rfl) ?_; simp -dsimp [hv, hlt2, hs]) | (with_reducible refine DT_regionE [0, 1, 2, 4, 5, 6, 7, 8, 14, 32, 57] ?_; simp -dsimp [hv, hlt2, hs]) | (refine DT_cond rfl (fun h => ?_) (fun h => ?_) <;> (try simp only [nrm] at h) <;> (try exact Bool.noConfusion h)) | (with_reducible refine GStop_split ?_ ?_ <;> intro h <;> have h0 := h <;> (try simp only [nrm] at h) <;> (try exact Bool.noConfusion h) <;> have h2 := h <;> (try simp at h2) <;> (replace hs := And.intro h0 (And.intro h (And.intro h2 hs))) <;> simp -dsimp [h0, h, h2, hv, hlt2, hs]) | (with_reducible refine imp_At (fun h => ?_); (try simp only [List.map_eq_nil_iff] at h); (try subst h); try simp -dsimp [hv, hlt2, hs]) | with_reducible refine And.intro ?_ ?_
        all_goals try simp -dsimp [hv, hlt2, hs]
        all_goals try clear hs
        all_goals simp [hb]
    · have hb : truthB O s = true := truth_good (truthTo_all (by rwa [show i = s.length by omega] at hto))
      have hs : True := trivial
      repeat' first | (with_reducible first | refine q01 ?_ | refine q02 ?_ | refine q03 ?_ | refine q04 ?_ | refine q05 ?_ | refine q06 ?_ | refine q07 (by decide) ?_ | refine q08 ?_ | refine q09 ?_ | refine q10 ?_ | refine q11 ?_ | refine q12 ?_ | refine q13 ?_ | refine q14 ?_ | refine q15 ?_ | refine q16 ?_ | refine q17 ?_ | refine And.intro (by omega) ?_) | (with_reducible refine At.fn_ret (by simp -dsimp [hlt2, hs]; exact rfl) ?_) | (with_reducible refine At.fn_end (by simp -dsimp [hlt2, hs]; exact rfl) ?_) | (refine DT_regionM (id := 6) (nt := 58) 11 [0, 1, 2, 4, 5, 6, 7, 8, 14, 32, 57] mixed rfl (by kernel_rfl) ?_; simp -dsimp [hlt2, hs]) | (refine DT_regionM (id := 10) (nt := 58) 23 [0, 1, 2, 4, 5, 6, 7, 8, 14, 32, 57] mixed rfl (by kernel_rfl) ?_; simp -dsimp [hlt2, hs]) | (with_reducible refine DT_regionE [0, 1, 2, 4, 5, 6, 7, 8, 14, 32, 57] ?_; simp -dsimp [hlt2, hs]) | (refine DT_cond rfl (fun h => ?_) (fun h => ?_) <;> (try simp only [nrm] at h) <;> (try exact Bool.noConfusion h)) | (with_reducible refine GStop_split ?_ ?_ <;> intro h <;> have h0 := h <;> (try simp only [nrm] at h) <;> (try exact Bool.noConfusion h) <;> have h2 := h <;> (try simp at h2) <;> (replace hs := And.intro h0 (And.intro h (And.intro h2 hs))) <;> simp -dsimp [h0, h, h2, hlt2, hs]) | (with_reducible refine imp_At (fun h => ?_); (try simp only [List.map_eq_nil_iff] at h); (try subst h); try simp -dsimp [hlt2, hs]) | with_reducible refine And.intro ?_ ?_
      all_goals try simp -dsimp [hlt2, hs]
      all_goals try clear hs
      all_goals simp [hb]
theorem asked3_c (n : Notes) (s : List Int) (m : Int) (hs : NSm n) (hsl : s.length < 1000) (objs : List DObj) : DCall Tryd.prog G 53 [notesv n, isv s, iv m] objs (fun rr objs' => rr = iv (askedE n s m) ∧ objs' = objs) := by
  refine DCall.frame ?_ (by simp) (by simp) objs
  refine DCall_intro Tryd.func53 rfl Tryd.ntmps53 (by simp) rfl ?_
  try simp only [notesv, isv, iv]
  have c1 := check3_c (G := G) n hs
  by_cases h0 : notesE n = 0
  · rw [h0] at c1
    have c2 := truth3_c (G := G) n s hs (notes_ok h0).2.2.1 hsl
    have c3 := within3_c (G := G) m 1 999
    have hE : askedE n s m = if truthB (isort (openL n.notes)) s = false then 31 else if 1 ≤ m ∧ m ≤ 999 then 0 else 2 := by unfold askedE; rw [if_neg (by simp [h0])]
    cases ht : truthB (isort (openL n.notes)) s
    · rw [ht] at c2 hE
      have hE : askedE n s m = 31 := by rw [hE]; rfl
      have hs : True := trivial
      repeat' first | (with_reducible first | refine q01 ?_ | refine q02 ?_ | refine q03 ?_ | refine q04 ?_ | refine q05 ?_ | refine q06 ?_ | refine q07 (by decide) ?_ | refine q08 ?_ | refine q09 ?_ | refine q10 ?_ | refine q11 ?_ | refine q12 ?_ | refine q13 ?_ | refine q14 ?_ | refine q15 ?_ | refine q16 ?_ | refine q17 ?_ | refine And.intro (by omega) ?_) | (with_reducible refine At.fn_ret (by simp -dsimp [hs]; exact rfl) ?_) | (with_reducible refine At.fn_end (by simp -dsimp [hs]; exact rfl) ?_) | (refine CallE.pure (c1) ?_; try simp -dsimp [hs]) | (refine CallE.pure (c2) ?_; try simp -dsimp [hs]) | (with_reducible refine DT_regionE [0, 1, 2, 3, 6, 7, 11, 16, 19] ?_; simp -dsimp [hs]) | (refine DT_cond rfl (fun h => ?_) (fun h => ?_) <;> (try simp only [nrm] at h) <;> (try exact Bool.noConfusion h)) | (with_reducible refine GStop_split ?_ ?_ <;> intro h <;> have h0 := h <;> (try simp only [nrm] at h) <;> (try exact Bool.noConfusion h) <;> have h2 := h <;> (try simp at h2) <;> (replace hs := And.intro h0 (And.intro h (And.intro h2 hs))) <;> simp -dsimp [h0, h, h2, hs]) | (with_reducible refine imp_At (fun h => ?_); (try simp only [List.map_eq_nil_iff] at h); (try subst h); try simp -dsimp [hs]) | with_reducible refine And.intro ?_ ?_
      all_goals try simp -dsimp [hs]
      all_goals try clear hs
      all_goals simp [hE]
    · rw [ht] at c2 hE
      by_cases hm : 1 ≤ m ∧ m ≤ 999
      · have hE : askedE n s m = 0 := by rw [hE, if_neg (by simp), if_pos hm]
        rw [show (decide (1 ≤ m) && decide (m ≤ 999)) = true by simp [hm]] at c3
        have hs : True := trivial
        repeat' first | (with_reducible first | refine q01 ?_ | refine q02 ?_ | refine q03 ?_ | refine q04 ?_ | refine q05 ?_ | refine q06 ?_ | refine q07 (by decide) ?_ | refine q08 ?_ | refine q09 ?_ | refine q10 ?_ | refine q11 ?_ | refine q12 ?_ | refine q13 ?_ | refine q14 ?_ | refine q15 ?_ | refine q16 ?_ | refine q17 ?_ | refine And.intro (by omega) ?_) | (with_reducible refine At.fn_ret (by simp -dsimp [hs]; exact rfl) ?_) | (with_reducible refine At.fn_end (by simp -dsimp [hs]; exact rfl) ?_) | (refine CallE.pure (c1) ?_; try simp -dsimp [hs]) | (refine CallE.pure (c2) ?_; try simp -dsimp [hs]) | (refine CallE.pure (c3) ?_; try simp -dsimp [hs]) | (with_reducible refine DT_regionE [0, 1, 2, 3, 6, 7, 11, 16, 19] ?_; simp -dsimp [hs]) | (refine DT_cond rfl (fun h => ?_) (fun h => ?_) <;> (try simp only [nrm] at h) <;> (try exact Bool.noConfusion h)) | (with_reducible refine GStop_split ?_ ?_ <;> intro h <;> have h0 := h <;> (try simp only [nrm] at h) <;> (try exact Bool.noConfusion h) <;> have h2 := h <;> (try simp at h2) <;> (replace hs := And.intro h0 (And.intro h (And.intro h2 hs))) <;> simp -dsimp [h0, h, h2, hs]) | (with_reducible refine imp_At (fun h => ?_); (try simp only [List.map_eq_nil_iff] at h); (try subst h); try simp -dsimp [hs]) | with_reducible refine And.intro ?_ ?_
        all_goals try simp -dsimp [hs]
        all_goals try clear hs
        all_goals simp [hE]
      · have hE : askedE n s m = 2 := by rw [hE, if_neg (by simp), if_neg hm]
        rw [show (decide (1 ≤ m) && decide (m ≤ 999)) = false by simp; omega] at c3
        have hs : True := trivial
        repeat' first | (with_reducible first | refine q01 ?_ | refine q02 ?_ | refine q03 ?_ | refine q04 ?_ | refine q05 ?_ | refine q06 ?_ | refine q07 (by decide) ?_ | refine q08 ?_ | refine q09 ?_ | refine q10 ?_ | refine q11 ?_ | refine q12 ?_ | refine q13 ?_ | refine q14 ?_ | refine q15 ?_ | refine q16 ?_ | refine q17 ?_ | refine And.intro (by omega) ?_) | (with_reducible refine At.fn_ret (by simp -dsimp [hs]; exact rfl) ?_) | (with_reducible refine At.fn_end (by simp -dsimp [hs]; exact rfl) ?_) | (refine CallE.pure (c1) ?_; try simp -dsimp [hs]) | (refine CallE.pure (c2) ?_; try simp -dsimp [hs]) | (refine CallE.pure (c3) ?_; try simp -dsimp [hs]) | (with_reducible refine DT_regionE [0, 1, 2, 3, 6, 7, 11, 16, 19] ?_; simp -dsimp [hs]) | (refine DT_cond rfl (fun h => ?_) (fun h => ?_) <;> (try simp only [nrm] at h) <;> (try exact Bool.noConfusion h)) | (with_reducible refine GStop_split ?_ ?_ <;> intro h <;> have h0 := h <;> (try simp only [nrm] at h) <;> (try exact Bool.noConfusion h) <;> have h2 := h <;> (try simp at h2) <;> (replace hs := And.intro h0 (And.intro h (And.intro h2 hs))) <;> simp -dsimp [h0, h, h2, hs]) | (with_reducible refine imp_At (fun h => ?_); (try simp only [List.map_eq_nil_iff] at h); (try subst h); try simp -dsimp [hs]) | with_reducible refine And.intro ?_ ?_
        all_goals try simp -dsimp [hs]
        all_goals try clear hs
        all_goals simp [hE]
  · have hE : askedE n s m = notesE n := by unfold askedE; rw [if_pos h0]
    have hs : True := trivial
    repeat' first | (with_reducible first | refine q01 ?_ | refine q02 ?_ | refine q03 ?_ | refine q04 ?_ | refine q05 ?_ | refine q06 ?_ | refine q07 (by decide) ?_ | refine q08 ?_ | refine q09 ?_ | refine q10 ?_ | refine q11 ?_ | refine q12 ?_ | refine q13 ?_ | refine q14 ?_ | refine q15 ?_ | refine q16 ?_ | refine q17 ?_ | refine And.intro (by omega) ?_) | (with_reducible refine At.fn_ret (by simp -dsimp [h0, hs]; exact rfl) ?_) | (with_reducible refine At.fn_end (by simp -dsimp [h0, hs]; exact rfl) ?_) | (refine CallE.pure (c1) ?_; try simp -dsimp [h0, hs]) | (with_reducible refine DT_regionE [0, 1, 2, 3, 6, 7, 11, 16, 19] ?_; simp -dsimp [h0, hs]) | (refine DT_cond rfl (fun h => ?_) (fun h => ?_) <;> (try simp only [nrm] at h) <;> (try exact Bool.noConfusion h)) | (with_reducible refine GStop_split ?_ ?_ <;> intro h <;> have h0 := h <;> (try simp only [nrm] at h) <;> (try exact Bool.noConfusion h) <;> have h2 := h <;> (try simp at h2) <;> (replace hs := And.intro h0 (And.intro h (And.intro h2 hs))) <;> simp -dsimp [h0, h, h2, h0, hs]) | (with_reducible refine imp_At (fun h => ?_); (try simp only [List.map_eq_nil_iff] at h); (try subst h); try simp -dsimp [h0, hs]) | with_reducible refine And.intro ?_ ?_
    all_goals try simp -dsimp [h0, hs]
    all_goals try clear hs
    all_goals simp [hE, h0]
end Go.Proofs
