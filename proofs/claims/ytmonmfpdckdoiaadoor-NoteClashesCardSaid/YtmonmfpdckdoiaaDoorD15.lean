/- Part 15 of the proof whose last text closes the card: laws and walks that hold without conditions beyond those that each theorem names. -/
import Derived.Test.YtmonmfpdckdoiaaDoorD12
import Derived.Test.YtmonmfpdckdoiaaDoorD14
set_option linter.all false
set_option linter.deprecated false
namespace Go.Proofs
open Go Go.Ab
set_option linter.unusedSimpArgs false
variable {G : Nat → Option (List IC)}
def byF (n : Notes) (s w : List Int) (m d : Int) (k : Nat) : Note := byN n.notes (frcL s w m n.notes) d k
theorem byF_succ {n : Notes} {s w : List Int} {m d : Int} {k : Nat} (hk : k < n.notes.length) : byF n s w m d (k + 1) = if n.notes[k].drawing = d ∧ frcAt n s w m k = true then n.notes[k] else byF n s w m d k := by
  have hl : k < (frcL s w m n.notes).length := by rw [frcL_len]; exact hk
  unfold byF frcAt
  simp only [byN, List.getElem?_eq_getElem hk, List.getElem?_eq_getElem hl, Option.some.injEq, Option.getD_some]
  by_cases h : (frcL s w m n.notes)[k] = true <;> by_cases h2 : n.notes[k].drawing = d <;> simp [h, h2]
set_option maxHeartbeats 1000000 in
theorem by_c (n : Notes) (s w : List Int) (m d : Int) (hl : n.notes.length < 1000) (hsl : s.length < 1000) (hwl : w.length < 1000) (M : List (Int × Bool)) (hM : ConsM n s w m M) :
    DCall Tryd.prog G 58 [.one (.im (fileI n)), .one (.fn (.func 98) frcCaps), iv d] (frcObjs n s w m M) (fun r o => ∃ M', ConsM n s w m M' ∧ r = notev (byF n s w m d n.notes.length) ∧ o = frcObjs n s w m M') := by
  have ih := fun i hi M hM => is_c (G := G) n s w m hl hsl hwl n.notes.length i (by omega) hi M hM
  simp only [frcObjs, frcCaps, fileI, iv, bv, rI, notev, encNote, rB, List.map_cons, List.map_nil] at ih ⊢
  refine DCall.drop ?_
  refine DCall_intro Tryd.func58 rfl Tryd.ntmps58 (by simp) rfl ?_
  have hw0 : IntKind.i64.wrap ((n.notes.length : Int) - 1) = (n.notes.length : Int) - 1 := i64w (by omega) (by omega)
  have hs : True := trivial
  repeat' first | (with_reducible first | refine q01 ?_ | refine q11 ?_ | refine q12 ?_) | (with_reducible refine DT_regionE [0, 1, 2, 6, 7, 8, 17, 36] ?_; simp -dsimp [hw0, hs])
  all_goals try simp -dsimp [hw0, hs]
  all_goals try clear hs
  refine DT_loop (ι := { p : Nat × List (Int × Bool) // p.1 ≤ n.notes.length ∧ ConsM n s w m p.2 ∧ byF n s w m d n.notes.length = byF n s w m d p.1 }) (fun p => ⟨39, [(0, .one (.im (.ip [.sl (n.reg.map encIssue), .sl (n.notes.map encNote), .sl ((nums n.reg).map encI), .sl ((isort (openL n.notes)).map encI)]))), (1, .one (.fn (.func 98) [.ptr 5 0, .ptr 0 0, .ptr 1 0, .ptr 2 0, .ptr 3 0, .ptr 6 0])), (2, iv d), (6, .one (.ptr 7 0)), (7, iv ((p.1.1 : Int) - 1))], [.row [.im (.ip [.sl (n.reg.map encIssue), .sl (n.notes.map encNote), .sl ((nums n.reg).map encI), .sl ((isort (openL n.notes)).map encI)])], .row [.im (.sl (s.map encI))], .row [.im (.sl (w.map encI))], .row [.im (rI m)], .map [.int .i64] (encMB p.1.2), .row [.map 4], .row [.fn (.func 98) [.ptr 5 0, .ptr 0 0, .ptr 1 0, .ptr 2 0, .ptr 3 0, .ptr 6 0]], .row ((encNote ⟨0, 0, 0, 0, 0, 0, 0, 0, false, 0⟩).map .im)]⟩) (fun p => p.1.1) ⟨(n.notes.length, M), by simp, hM, rfl⟩ (Weak.of_keep [0,1,2,6,7] (by simp)) ?_
  clear hM
  rintro ⟨⟨k, M2⟩, hk, hM2, hv⟩
  simp only at hk hM2 hv
  simp only [iv]
  cases k with
  | zero =>
    have hs : True := trivial
    repeat' first | (with_reducible first | refine q01 ?_ | refine q03 ?_ | refine q06 ?_ | refine q11 ?_ | refine q16 ?_ | refine q17 ?_) | (with_reducible refine At.fn_ret (by simp -dsimp [hs]; exact rfl) ?_) | (with_reducible refine DT_regionE [0, 1, 2, 6, 7, 8, 17, 36] ?_; simp -dsimp [hs]) | (refine DT_cond rfl (fun h => ?_) (fun h => ?_) <;> (try simp only [nrm] at h) <;> (try exact Bool.noConfusion h))
    all_goals try simp -dsimp [hs]
    all_goals try clear hs
    exact ⟨M2, hM2, by rw [hv]; simp [byF, byN, note1], rfl⟩
  | succ k =>
    have hkl : k < n.notes.length := hk
    have hwk : IntKind.i64.wrap ((k : Int) - 1) = (k : Int) - 1 := i64w (by omega) (by omega)
    have hc := ih k hkl M2 hM2
    rw [byF_succ hkl] at hv
    generalize hx : n.notes[k] = x at *
    by_cases hd : x.drawing = d
    · have hs : True := trivial
      repeat' first | (with_reducible first | refine q01 ?_ | refine q02 ?_ | refine q04 ?_ | refine q05 ?_ | refine q11 ?_ | refine q12 ?_ | refine q14 ?_ | refine q17 ?_) | (with_reducible refine At.fn_ret (by simp -dsimp [hx, hkl, hwk, hd, hs]; exact rfl) ?_) | (refine CallE.embed_ex [0,1,2,3,4,5,6] (hc) ?_ ?_ ?_ ?_ ?_ ?_; (focus (simp [emb]; done)); (focus (simp; done)); (focus (simp; done)); (focus (simp; done)); (focus (refine emb_all ?_; simp [emb, embAll]; done)); intro mm hmm; try simp -dsimp [mergeO, emb, hx, hkl, hwk, hd, hs]) | (with_reducible refine DT_regionE [0, 1, 2, 6, 7, 8, 17, 36] ?_; simp -dsimp [hx, hkl, hwk, hd, hs]) | (refine DT_cond rfl (fun h => ?_) (fun h => ?_) <;> (try simp only [nrm] at h) <;> (try exact Bool.noConfusion h))
      all_goals try simp -dsimp [hx, hkl, hwk, hd, hs]
      all_goals try clear hs
      · have e := hv.trans (if_pos ⟨hd, by assumption⟩)
        exact ⟨mm, hmm, by rw [e]; simp [hd], rfl⟩
      · have hf : frcAt n s w m k = false := by assumption
        have e := hv.trans (if_neg fun h => by rw [hf] at h; exact Bool.false_ne_true h.2)
        exact At.round ⟨(k, mm), by simp only; omega, hmm, e⟩ (by simp) (Weak.of_drop [0,1,2,6,7] 8 (by simp) (by simp) (by simp))
    · rw [if_neg fun h => hd h.1] at hv
      have hs : True := trivial
      repeat' first | (with_reducible first | refine q01 ?_ | refine q04 ?_ | refine q11 ?_ | refine q12 ?_ | refine q14 ?_) | (with_reducible refine DT_regionE [0, 1, 2, 6, 7, 8, 17, 36] ?_; simp -dsimp [hx, hkl, hwk, hd, hs]) | (refine DT_cond rfl (fun h => ?_) (fun h => ?_) <;> (try simp only [nrm] at h) <;> (try exact Bool.noConfusion h))
      all_goals try simp -dsimp [hx, hkl, hwk, hd, hs]
      all_goals try clear hs
      exact At.round ⟨(k, M2), by simp only; omega, hM2, hv⟩ (by simp) (Weak.of_drop [0,1,2,6,7] 8 (by simp) (by simp) (by simp))
def lettersP (n : Notes) (s : List Int) (m : Int) : List Int := (nums n.reg).map fun d => (byF n s [] m d n.notes.length).letter
set_option maxHeartbeats 1000000 in
theorem lettersP_c (n : Notes) (s : List Int) (m : Int) (hl : n.notes.length < 1000) (hr : n.reg.length < 1000) (hsl : s.length < 1000) (objs : List DObj) : DCall Tryd.prog G 55 [.one (.im (fileI n)), isv s, iv m] objs (fun rr objs' => rr = isv (lettersP n s m) ∧ objs' = objs) := by
  refine DCall.frame ?_ (by simp) (by simp) objs
  refine DCall_intro Tryd.func55 rfl Tryd.ntmps55 (by simp) rfl ?_
  try simp only [isv, iv]
  have c1 := force_c (G := G) n s [] m
  simp only [frcObjs, frcCaps, fileI, iv, isv, bv, rI, List.map_cons, List.map_nil, encMB] at c1 ⊢
  have hs : True := trivial
  repeat' first | (with_reducible first | refine q01 ?_ | refine q11 ?_ | refine q12 ?_) | (refine CallE.embed [] (c1) ?_ ?_ ?_ ?_ ?_ ?_; (focus (simp [emb]; done)); (focus (simp; done)); (focus (simp; done)); (focus (simp; done)); (focus (refine emb_all ?_; simp [emb, embAll]; done)); try simp -dsimp [mergeO, emb, hs]) | (with_reducible refine DT_regionE [0, 1, 2, 6, 7, 8, 10, 18, 19, 20, 21] ?_; simp -dsimp [hs])
  all_goals try simp -dsimp [hs]
  all_goals try clear hs
  have hrl := numsTo_length n.reg n.reg.length
  rw [show numsTo n.reg n.reg.length = nums n.reg from rfl] at hrl
  have hE : lettersP n s m = (nums n.reg).map fun d => (byF n s [] m d n.notes.length).letter := rfl
  generalize hP : (fun d => (byF n s [] m d n.notes.length).letter) = P at *
  generalize hns : nums n.reg = ns at *
  refine DT_loop (ι := { p : Nat × Nat × Bool × List (Int × Bool) // p.1 ≤ ns.length ∧ ConsM n s [] m p.2.2.2 }) (fun p => ⟨34, [(0, .one (.im (.ip [.sl (n.reg.map encIssue), .sl (n.notes.map encNote), .sl (ns.map encI), .sl ((isort (openL n.notes)).map encI)]))), (7, .one (.fn (.func 98) [.ptr 6 0, .ptr 1 0, .ptr 2 0, .ptr 3 0, .ptr 4 0, .ptr 7 0])), (8, .one (.vec 8 p.1.2.1 0 p.1.1)), (18, isv ns), (19, iv (ns.length : Int)), (20, iv (p.1.1 : Int))], [.vec 1 [] 0 true] ++ [.row [.im (.ip [.sl (n.reg.map encIssue), .sl (n.notes.map encNote), .sl (ns.map encI), .sl ((isort (openL n.notes)).map encI)])], .row [.im (.sl (s.map encI))], .row [.im (.sl [])], .row [.im (rI m)], .map [.int .i64] (encMB p.1.2.2.2), .row [.map 5], .row [.fn (.func 98) [.ptr 6 0, .ptr 1 0, .ptr 2 0, .ptr 3 0, .ptr 4 0, .ptr 7 0]]] ++ [.vec 1 (ims (((ns.take p.1.1).map P).map encI)) p.1.2.1 p.1.2.2.1]⟩) (fun p => ns.length - p.1.1) ⟨(0, 0, true, []), by simp, ConsM.nil _ _ _ _⟩ (Weak.of_keep [0,7,8,18,19,20] (by simp [encMB])) ?_
  rintro ⟨⟨k, g, nl, M⟩, hk, hM⟩
  simp only at hk hM
  simp only [iv, isv]
  have hlk : ((ns.take k).map P).length = k := by simp; omega
  by_cases hlt : k < ns.length
  · have hw : IntKind.i64.wrap ((k : Int) + 1) = ((k + 1 : Nat) : Int) := i64w (by omega) (by omega)
    have hst : (ns.take (k + 1)).map P = (ns.take k).map P ++ [P ns[k]] := by rw [List.take_succ_eq_append_getElem hlt, List.map_append, List.map_singleton]
    generalize hx : ns[k] = x at *
    have c2 := by_c (G := G) n s [] m x hl hsl (by simp) M hM
    have hPx : (byF n s [] m x n.notes.length).letter = P x := by rw [← hP]
    simp only [frcObjs, frcCaps, fileI, iv, bv, rI, List.map_cons, List.map_nil, hns] at c2
    generalize (ns.take k).map P = L at *
    subst hlk
    have hs : True := trivial
    repeat' first | (with_reducible first | refine q01 ?_ | refine q04 ?_ | refine q11 ?_ | refine q12 ?_ | refine q14 ?_ | refine And.intro (by omega) ?_) | (refine CallE.embed_ex [1,2,3,4,5,6,7] (c2) ?_ ?_ ?_ ?_ ?_ ?_; (focus (simp [emb]; done)); (focus (simp; done)); (focus (simp; done)); (focus (simp; done)); (focus (refine emb_all ?_; simp [emb, embAll]; done)); intro mm hmm; try simp -dsimp [mergeO, emb, hx, hlt, hw, hPx, hs]) | (with_reducible refine DT_regionE [0, 1, 2, 6, 7, 8, 10, 18, 19, 20, 21] ?_; simp -dsimp [hx, hlt, hw, hPx, hs]) | (refine DT_cond rfl (fun h => ?_) (fun h => ?_) <;> (try simp only [nrm] at h) <;> (try exact Bool.noConfusion h))
    all_goals try simp -dsimp [hx, hlt, hw, hPx, hs]
    all_goals try clear hs
    all_goals exact At.round ⟨(L.length + 1, g + 1, false, mm), by simp only; omega, hmm⟩ (by simp; omega) (Weak.of_drop [0,7,8,18,19,20] 9 (by simp) (by simp) (by simp [hst, hPx]))
  · obtain rfl : k = ns.length := by omega
    rw [List.take_length] at hlk ⊢
    have hs : True := trivial
    repeat' first | (with_reducible first | refine q01 ?_ | refine q03 ?_ | refine q06 ?_ | refine q11 ?_ | refine q16 ?_ | refine q17 ?_) | (with_reducible refine At.fn_ret (by simp -dsimp [hlt, hs]; exact rfl) ?_) | (with_reducible refine DT_regionE [0, 1, 2, 6, 7, 8, 10, 18, 19, 20, 21] ?_; simp -dsimp [hlt, hs]) | (refine DT_cond rfl (fun h => ?_) (fun h => ?_) <;> (try simp only [nrm] at h) <;> (try exact Bool.noConfusion h))
    all_goals try simp -dsimp [hlt, hs]
    all_goals try clear hs
    simp [hE]
theorem nForce_c (n : Notes) (s : List Int) (m : Int) (hG : sheetG G) (hN : noteG G) (hS : SortOk G) (hs : NSm n) (hsl : s.length < 1000) (objs : List DObj) : DCall Tryd.prog G 18 [notesv n, isv s, iv m] objs (fun rr objs' => rr = .tup [isv (if askedE n s m = 0 then inT n.notes (frcL s [] m n.notes) n.notes.length else []), iv (askedE n s m)] ∧ objs' = objs) := by
  refine DCall.frame ?_ (by simp) (by simp) objs
  refine DCall_intro Tryd.func18 rfl Tryd.ntmps18 (by simp) rfl ?_
  try simp only [notesv, isv, iv]
  have c1 := asked_c n s m hG hN hS hs hsl
  by_cases h0 : askedE n s m = 0
  · rw [h0, show askedR n s m = .one (.im (fileI n)) by unfold askedR; rw [if_pos h0]] at c1
    have c2 := force_c (G := G) n s [] m
    simp only [frcObjs, frcCaps, fileI, iv, isv, bv, rI, List.map_cons, List.map_nil, encMB] at c1 c2 ⊢
    have hs : True := trivial
    repeat' first | (with_reducible first | refine q01 ?_ | refine q11 ?_ | refine q12 ?_ | refine q14 ?_) | (refine CallE.pure (c1) ?_; try simp -dsimp [hs]) | (refine CallE.embed [] (c2) ?_ ?_ ?_ ?_ ?_ ?_; (focus (simp [emb]; done)); (focus (simp; done)); (focus (simp; done)); (focus (simp; done)); (focus (refine emb_all ?_; simp [emb, embAll]; done)); try simp -dsimp [mergeO, emb, hs]) | (with_reducible refine DT_regionE [0, 1, 2, 3, 6, 7, 8, 9, 10, 11, 12, 21, 29, 30, 31, 35] ?_; simp -dsimp [hs]) | (refine DT_cond rfl (fun h => ?_) (fun h => ?_) <;> (try simp only [nrm] at h) <;> (try exact Bool.noConfusion h))
    all_goals try simp -dsimp [hs]
    all_goals try clear hs
    have hl12 := (notes_ok (asked_ok h0).1).2.1
    rw [if_pos h0]
    have hFl := frcL_len s [] m n.notes
    refine DT_loop (ι := { p : Nat × Nat × Bool × List (Int × Bool) // p.1 ≤ n.notes.length ∧ ConsM n s [] m p.2.2.2 }) (fun p => ⟨47, [(3, .one (.ptr 0 0)), (10, .one (.fn (.func 98) [.ptr 7 0, .ptr 2 0, .ptr 3 0, .ptr 4 0, .ptr 5 0, .ptr 8 0])), (11, .one (.vec 9 p.1.2.1 0 (inT n.notes (frcL s [] m n.notes) p.1.1).length)), (29, iv (n.notes.length : Int)), (30, iv (p.1.1 : Int))], [.row ((encNotes n).map .im), .vec 1 [] 0 true] ++ [.row [.im (.ip [.sl (n.reg.map encIssue), .sl (n.notes.map encNote), .sl ((nums n.reg).map encI), .sl ((isort (openL n.notes)).map encI)])], .row [.im (.sl (s.map encI))], .row [.im (.sl [])], .row [.im (rI m)], .map [.int .i64] (encMB p.1.2.2.2), .row [.map 6], .row [.fn (.func 98) [.ptr 7 0, .ptr 2 0, .ptr 3 0, .ptr 4 0, .ptr 5 0, .ptr 8 0]]] ++ [.vec 1 (ims ((inT n.notes (frcL s [] m n.notes) p.1.1).map encI)) p.1.2.1 p.1.2.2.1]⟩) (fun p => n.notes.length - p.1.1) ⟨(0, 0, true, []), by simp, ConsM.nil _ _ _ _⟩ (Weak.of_keep [3,10,11,29,30] (by simp [encMB, inT_zero])) ?_
    rintro ⟨⟨k, g, nl, M⟩, hk, hM⟩
    simp only at hk hM
    simp only [iv]
    have hlk := inT_len n.notes (frcL s [] m n.notes) k
    by_cases hlt : k < n.notes.length
    · have hw : IntKind.i64.wrap ((k : Int) + 1) = ((k + 1 : Nat) : Int) := i64w (by omega) (by omega)
      have hf : k < (frcL s [] m n.notes).length := by omega
      have hst := inT_succ hlt hf
      rw [show (frcL s [] m n.notes)[k] = frcAt n s [] m k by rw [frcAt, List.getElem?_eq_getElem hf]; rfl] at hst
      generalize hx : n.notes[k] = x at *
      have c3 := is_c (G := G) n s [] m (by omega) hsl (by simp) n.notes.length k (by omega) hlt M hM
      simp only [frcObjs, frcCaps, fileI, iv, bv, rI, List.map_cons, List.map_nil] at c3
      generalize inT n.notes (frcL s [] m n.notes) k = L at *
      have hs : True := trivial
      repeat' first | (with_reducible first | refine q01 ?_ | refine q04 ?_ | refine q11 ?_ | refine q12 ?_ | refine q14 ?_ | refine And.intro (by omega) ?_) | (refine CallE.embed_ex [2,3,4,5,6,7,8] (c3) ?_ ?_ ?_ ?_ ?_ ?_; (focus (simp [emb]; done)); (focus (simp; done)); (focus (simp; done)); (focus (simp; done)); (focus (refine emb_all ?_; simp [emb, embAll]; done)); intro mm hmm; try simp -dsimp [mergeO, emb, hx, hlt, hw, hs]) | (with_reducible refine DT_regionE [0, 1, 2, 3, 6, 7, 8, 9, 10, 11, 12, 21, 29, 30, 31, 35] ?_; simp -dsimp [hx, hlt, hw, hs]) | (refine DT_cond rfl (fun h => ?_) (fun h => ?_) <;> (try simp only [nrm] at h) <;> (try exact Bool.noConfusion h))
      all_goals try simp -dsimp [hx, hlt, hw, hs]
      all_goals try clear hs
      · have e := hst.trans (by rw [if_pos (by assumption)])
        exact At.round ⟨(k + 1, g + 1, false, mm), by simp only; omega, hmm⟩ (by simp; omega) (Weak.of_drop [3,10,11,29,30] 10 (by simp) (by simp) (by simp [e]))
      · have hff : frcAt n s [] m k = false := by assumption
        have e := hst.trans (by rw [hff, if_neg Bool.false_ne_true, List.append_nil])
        exact At.round ⟨(k + 1, g, nl, mm), by simp only; omega, hmm⟩ (by simp; omega) (Weak.of_drop [3,10,11,29,30] 10 (by simp) (by simp) (by simp [e]))
    · obtain rfl : k = n.notes.length := by omega
      have hs : True := trivial
      repeat' first | (with_reducible first | refine q01 ?_ | refine q03 ?_ | refine q06 ?_ | refine q11 ?_ | refine q16 ?_ | refine q17 ?_) | (with_reducible refine At.fn_ret (by simp -dsimp [hlt, hs]; exact rfl) ?_) | (with_reducible refine DT_regionE [0, 1, 2, 3, 6, 7, 8, 9, 10, 11, 12, 21, 29, 30, 31, 35] ?_; simp -dsimp [hlt, hs]) | (refine DT_cond rfl (fun h => ?_) (fun h => ?_) <;> (try simp only [nrm] at h) <;> (try exact Bool.noConfusion h))
      all_goals try simp -dsimp [hlt, hs]
      all_goals try clear hs
      all_goals simp [*]
  · rw [show askedR n s m = .one (.im (.raw (.pointer none))) by unfold askedR; rw [if_neg h0]] at c1
    have hs : True := trivial
    repeat' first | (with_reducible first | refine q01 ?_ | refine q02 ?_ | refine q11 ?_ | refine q17 ?_) | (with_reducible refine At.fn_ret (by simp -dsimp [h0, hs]; exact rfl) ?_) | (refine CallE.pure (c1) ?_; try simp -dsimp [h0, hs]) | (with_reducible refine DT_regionE [0, 1, 2, 3, 6, 7, 8, 9, 10, 11, 12, 21, 29, 30, 31, 35] ?_; simp -dsimp [h0, hs]) | (refine DT_cond rfl (fun h => ?_) (fun h => ?_) <;> (try simp only [nrm] at h) <;> (try exact Bool.noConfusion h))
    all_goals try simp -dsimp [h0, hs]
    all_goals try clear hs
    all_goals simp [h0]
theorem nLetters_c (n : Notes) (s : List Int) (m : Int) (hG : sheetG G) (hN : noteG G) (hS : SortOk G) (hs : NSm n) (hsl : s.length < 1000) (objs : List DObj) : DCall Tryd.prog G 20 [notesv n, isv s, iv m] objs (fun rr objs' => rr = .tup [isv (if askedE n s m = 0 then lettersP n s m else []), iv (askedE n s m)] ∧ objs' = objs) := by
  refine DCall.frame ?_ (by simp) (by simp) objs
  refine DCall_intro Tryd.func20 rfl Tryd.ntmps20 (by simp) rfl ?_
  try simp only [notesv, isv, iv]
  have c1 := asked_c n s m hG hN hS hs hsl
  by_cases h0 : askedE n s m = 0
  · rw [h0, show askedR n s m = .one (.im (fileI n)) by unfold askedR; rw [if_pos h0]] at c1
    have hl12 := hs.2.1
    have hr80 := hs.1.1
    have c2 := lettersP_c (G := G) n s m (by omega) (by omega) hsl
    simp only [fileI] at c1 c2
    rw [if_pos h0]
    have hs : True := trivial
    repeat' first | (with_reducible first | refine q01 ?_ | refine q11 ?_ | refine q14 ?_ | refine q17 ?_) | (with_reducible refine At.fn_ret (by simp -dsimp [hs]; exact rfl) ?_) | (refine CallE.pure (c1) ?_; try simp -dsimp [hs]) | (refine CallE.pure (c2) ?_; try simp -dsimp [hs]) | (with_reducible refine DT_regionE [0, 1, 2, 3, 6, 7, 8, 9, 18] ?_; simp -dsimp [hs]) | (refine DT_cond rfl (fun h => ?_) (fun h => ?_) <;> (try simp only [nrm] at h) <;> (try exact Bool.noConfusion h))
    all_goals try simp -dsimp [hs]
    all_goals try clear hs
    all_goals simp [h0]
  · rw [show askedR n s m = .one (.im (.raw (.pointer none))) by unfold askedR; rw [if_neg h0]] at c1
    have hs : True := trivial
    repeat' first | (with_reducible first | refine q01 ?_ | refine q02 ?_ | refine q11 ?_ | refine q17 ?_) | (with_reducible refine At.fn_ret (by simp -dsimp [h0, hs]; exact rfl) ?_) | (refine CallE.pure (c1) ?_; try simp -dsimp [h0, hs]) | (with_reducible refine DT_regionE [0, 1, 2, 3, 6, 7, 8, 9, 18] ?_; simp -dsimp [h0, hs]) | (refine DT_cond rfl (fun h => ?_) (fun h => ?_) <;> (try simp only [nrm] at h) <;> (try exact Bool.noConfusion h))
    all_goals try simp -dsimp [h0, hs]
    all_goals try clear hs
    all_goals simp [h0]
theorem nBy_c (n : Notes) (s : List Int) (d m : Int) (hG : sheetG G) (hN : noteG G) (hS : SortOk G) (hs : NSm n) (hsl : s.length < 1000) (objs : List DObj) : DCall Tryd.prog G 22 [notesv n, isv s, iv d, iv m] objs (fun rr objs' => rr = .tup [iv (if drawnE n s m d = 0 then (byF n s [] m d n.notes.length).number else 0), iv (drawnE n s m d)] ∧ objs' = objs) := by
  refine DCall.frame ?_ (by simp) (by simp) objs
  refine DCall_intro Tryd.func22 rfl Tryd.ntmps22 (by simp) rfl ?_
  try simp only [notesv, isv, iv, iv]
  have c1 := drawn_c n s m d hG hN hS hs hsl
  by_cases h0 : drawnE n s m d = 0
  · rw [h0, show drawnR n s m d = .one (.im (fileI n)) by unfold drawnR; rw [if_pos h0]] at c1
    have c2 := force_c (G := G) n s [] m
    have hl12 := hs.2.1
    have c3 := by_c (G := G) n s [] m d (by omega) hsl (by simp) [] (ConsM.nil _ _ _ _)
    simp only [frcObjs, frcCaps, fileI, iv, isv, bv, rI, List.map_cons, List.map_nil, encMB] at c1 c2 c3 ⊢
    rw [if_pos h0]
    have hs : True := trivial
    repeat' first | (with_reducible first | refine q01 ?_ | refine q11 ?_ | refine q14 ?_ | refine q17 ?_) | (with_reducible refine At.fn_ret (by simp -dsimp [hs]; exact rfl) ?_) | (refine CallE.pure (c1) ?_; try simp -dsimp [hs]) | (refine CallE.embed [] (c2) ?_ ?_ ?_ ?_ ?_ ?_; (focus (simp [emb]; done)); (focus (simp; done)); (focus (simp; done)); (focus (simp; done)); (focus (refine emb_all ?_; simp [emb, embAll]; done)); try simp -dsimp [mergeO, emb, hs]) | (refine CallE.embed_ex [1,2,3,4,5,6,7] (c3) ?_ ?_ ?_ ?_ ?_ ?_; (focus (simp [emb]; done)); (focus (simp; done)); (focus (simp; done)); (focus (simp; done)); (focus (refine emb_all ?_; simp [emb, embAll]; done)); intro mm hmm; try simp -dsimp [mergeO, emb, hs]) | (with_reducible refine DT_regionE [0, 1, 2, 3, 4, 8, 9, 10, 11, 21] ?_; simp -dsimp [hs]) | (refine DT_cond rfl (fun h => ?_) (fun h => ?_) <;> (try simp only [nrm] at h) <;> (try exact Bool.noConfusion h))
    all_goals try simp -dsimp [hs]
    all_goals try clear hs
    all_goals simp [h0]
  · rw [show drawnR n s m d = .one (.im (.raw (.pointer none))) by unfold drawnR; rw [if_neg h0]] at c1
    have hs : True := trivial
    repeat' first | (with_reducible first | refine q01 ?_ | refine q02 ?_ | refine q11 ?_ | refine q17 ?_) | (with_reducible refine At.fn_ret (by simp -dsimp [h0, hs]; exact rfl) ?_) | (refine CallE.pure (c1) ?_; try simp -dsimp [h0, hs]) | (with_reducible refine DT_regionE [0, 1, 2, 3, 4, 8, 9, 10, 11, 21] ?_; simp -dsimp [h0, hs]) | (refine DT_cond rfl (fun h => ?_) (fun h => ?_) <;> (try simp only [nrm] at h) <;> (try exact Bool.noConfusion h))
    all_goals try simp -dsimp [h0, hs]
    all_goals try clear hs
    all_goals simp [h0]
end Go.Proofs
namespace Go.Proofs
open Go Go.Ab
def openI (l : List Note) : List Nat := ((List.range l.length).filter (opAt l)).mergeSort fun a b => decide (numAt l a ≤ numAt l b)
theorem openI_to (l : List Note) : OpenTo l l.length (openI l) := by
  refine ⟨List.mergeSort_perm _ _, ?_⟩
  have := List.pairwise_mergeSort (le := fun a b : Nat => decide (numAt l a ≤ numAt l b)) (fun a b c h1 h2 => by simp at *; omega) (fun a b => by simp; omega) ((List.range l.length).filter (opAt l))
  exact this.imp fun h => by simpa using h
theorem openI_eq {n : Notes} (hok : allOk n) {S : List Nat} (h : OpenTo n.notes n.notes.length S) : S = openI n.notes := by
  have h2 := openI_to n.notes
  refine (h.perm.trans h2.perm.symm).eq_of_pairwise (le := fun a b => numAt n.notes a ≤ numAt n.notes b) (fun a b ha hb h3 h4 => ?_) h.srt h2.srt
  have la := (h.lt a ha).1
  have lb := (h2.lt b hb).1
  have e : numAt n.notes a = numAt n.notes b := by omega
  simp only [numAt, List.getElem?_eq_getElem la, List.getElem?_eq_getElem lb, Option.map_some, Option.getD_some] at e
  have hnd := nums_nodup hok
  have la' : a < (n.notes.map (·.number)).length := by simpa using la
  have lb' : b < (n.notes.map (·.number)).length := by simpa using lb
  have e' : (n.notes.map (·.number))[a] = (n.notes.map (·.number))[b] := by simpa using e
  exact (List.getElem_inj hnd).1 e'
theorem openI_nums {n : Notes} : (openI n.notes).map (numAt n.notes) = isort (openL n.notes) := (openI_to n.notes).nums
theorem openI_lt {l : List Note} {i : Nat} (h : i ∈ openI l) : i < l.length := ((openI_to l).lt i h).1
end Go.Proofs
namespace Go.Ab
open Go
@[simp] theorem ims_set1 (X : List (List IC)) (k : Nat) (c : IC) : (ims X).set k [DC.im c] = ims (X.set k [c]) := by
  simp only [ims, List.map_set, List.map_cons, List.map_nil]
@[simp] theorem ims_get1 (X : List (List IC)) (k : Nat) (h : k < (ims X).length) : (ims X)[k] = (X[k]'(by simpa [ims_length] using h)).map .im := by simp [ims]
theorem map_nat_set (S : List Nat) (i v : Nat) : (S.map fun j => ((j : Nat) : Int)).set i (v : Int) = (S.set i v).map fun j => ((j : Nat) : Int) := by
  rw [List.map_set]
theorem ins_swap {S : List Nat} {q k : Nat} (hq : q < S.length) : ((S.take (q + 1) ++ k :: S.drop (q + 1)).set (q + 1) S[q]).set q k = S.take q ++ k :: S.drop q := by
  have h1 : S.take (q + 1) = S.take q ++ [S[q]] := List.take_succ_eq_append_getElem hq
  have hl : (S.take q).length = q := by simp; omega
  rw [List.drop_eq_getElem_cons hq, h1, List.append_assoc, List.set_append_right _ _ (by omega), List.set_append_right _ _ (by omega)]
  congr 1
  rw [hl, show q + 1 - q = 1 by omega, show q - q = 0 by omega]
  rfl
theorem ins_at {S : List Nat} {q k : Nat} (hq : q ≤ S.length) : (S.take q ++ k :: S.drop q)[q]? = some k := by
  have hl : (S.take q).length = q := by simp; omega
  rw [List.getElem?_append_right (by omega), hl, Nat.sub_self]; rfl
theorem ins_before {S : List Nat} {q k : Nat} (hq : q < S.length) : (S.take (q + 1) ++ k :: S.drop (q + 1))[q]? = some S[q] := by
  rw [List.getElem?_append_left (by simp; omega), List.getElem?_take_of_lt (by omega), List.getElem?_eq_getElem hq]
end Go.Ab
namespace Go.Proofs
open Go Go.Ab
set_option linter.unusedSimpArgs false
variable {G : Nat → Option (List IC)}
def idxv (S : List Nat) : List Int := S.map fun j => ((j : Nat) : Int)
set_option maxHeartbeats 4000000 in
theorem open3_c (n : Notes) (hs : NSm n) (hok : allOk n) (objs : List DObj) : DCall Tryd.prog G 129 [notesv n] objs (fun rr objs' => rr = isv (idxv (openI n.notes)) ∧ objs' = objs) := by
  refine DCall.frame ?_ (by simp) (by simp) objs
  refine DCall_intro Tryd.func129 rfl Tryd.ntmps129 (by simp) rfl ?_
  try simp only [notesv]
  have hn16 := hs.2.1
  have hs : True := trivial
  repeat' first | (with_reducible first | refine q01 ?_ | refine q11 ?_ | refine q12 ?_) | (with_reducible refine DT_regionE [0, 1, 2, 3, 4, 5, 6, 11, 20, 51] ?_; simp -dsimp [hs])
  all_goals try simp -dsimp [hs]
  all_goals try clear hs
  refine DT_loop (ι := { p : Nat × Nat × Bool × List Nat // p.1 ≤ n.notes.length ∧ OpenTo n.notes p.1 p.2.2.2 }) (fun p => ⟨72, [(1, .one (.ptr 0 0)), (3, .one (.vec 2 p.1.2.1 0 (idxv p.1.2.2.2).length)), (4, iv (p.1.1 : Int))], [.row ((encNotes n).map .im), .vec 1 [] 0 true, .vec 1 (ims ((idxv p.1.2.2.2).map encI)) p.1.2.1 p.1.2.2.1]⟩) (fun p => n.notes.length - p.1.1) ⟨(0, 0, true, []), by simp, OpenTo.nil _⟩ (Weak.of_keep [1,3,4] (by simp [idxv])) ?_
  rintro ⟨⟨i, g, nl, S⟩, hi, hS⟩
  simp only at hi hS
  simp only [iv]
  have hSl := hS.len
  by_cases hlt : i < n.notes.length
  · have hw : IntKind.i64.wrap ((i : Int) + 1) = ((i + 1 : Nat) : Int) := i64w (by omega) (by omega)
    have hop : opAt n.notes i = decide (n.notes[i].signed = 1) := by simp [opAt, hlt]
    have hnu : numAt n.notes i = n.notes[i].number := by simp [numAt, hlt]
    generalize hx : n.notes[i] = x at *
    by_cases h1 : x.signed = 1
    · have hLl : (idxv S).length = S.length := by simp [idxv]
      have hw2 : IntKind.i64.wrap ((idxv S).length : Int) = ((idxv S).length : Int) := i64w (by omega) (by omega)
      rw [decide_eq_true h1] at hop
      have hs : True := trivial
      repeat' first | (with_reducible first | refine q01 ?_ | refine q11 ?_ | refine q12 ?_ | refine q14 ?_ | refine And.intro (by omega) ?_) | (with_reducible refine DT_regionE [0, 1, 2, 3, 4, 5, 6, 11, 20, 51] ?_; simp -dsimp [hx, hlt, h1, hw, hw2, hs]) | (refine DT_cond rfl (fun h => ?_) (fun h => ?_) <;> (try simp only [nrm] at h) <;> (try exact Bool.noConfusion h))
      all_goals try simp -dsimp [hx, hlt, h1, hw, hw2, hs]
      all_goals try clear hs
      refine DT_loop (ι := { q : Nat // q ≤ S.length ∧ ∀ j ∈ S.drop q, numAt n.notes i ≤ numAt n.notes j }) (fun p => ⟨72, [(1, .one (.ptr 0 0)), (3, .one (.vec 2 (g + 1) 0 (S.length + 1))), (4, iv (i : Int)), (5, iv (p.1 : Int))], [.row ((encNotes n).map .im), .vec 1 [] 0 true, .vec 1 (ims ((idxv (S.take p.1 ++ i :: S.drop p.1)).map encI)) (g + 1) false]⟩) (fun p => p.1) ⟨S.length, by simp⟩ (Weak.of_drop [1,3,4,5] 3 (by simp) (by simp) (by simp [hLl]; simp [idxv])) ?_
      rintro ⟨q, hq, hge⟩
      simp only [iv]
      have hLq := ins_at (k := i) hq
      have hTl : (idxv (S.take q ++ i :: S.drop q)).length = S.length + 1 := by simp [idxv]; omega
      have hLi : (idxv (S.take q ++ i :: S.drop q))[q]? = some (i : Int) := by rw [idxv, List.getElem?_map, hLq]; rfl
      by_cases h0 : q = 0
      · subst h0
        have hput := hS.put hop 0 (by simp) hge
        have hs : True := trivial
        repeat' first | (with_reducible first | refine q01 ?_ | refine q03 ?_ | refine q04 ?_ | refine q06 ?_ | refine q11 ?_ | refine q16 ?_) | (refine DT_regionM (id := 8) (nt := 72) 24 [0, 1, 2, 3, 4, 5, 6, 11, 20, 51] mixed rfl (by kernel_rfl) ?_; simp -dsimp [hw, hx, hlt, hs]) | (with_reducible refine DT_regionE [0, 1, 2, 3, 4, 5, 6, 11, 20, 51] ?_; simp -dsimp [hw, hx, hlt, hs]) | (refine DT_cond rfl (fun h => ?_) (fun h => ?_) <;> (try simp only [nrm] at h) <;> (try exact Bool.noConfusion h))
        all_goals try simp -dsimp [hw, hx, hlt, hs]
        all_goals try clear hs
        exact At.round ⟨(i + 1, g + 1, false, S.take 0 ++ i :: S.drop 0), by omega, hput⟩ (by simp; omega) (Weak.of_keep [1,3,4] (by simp [idxv]))
      · obtain ⟨r, rfl⟩ : ∃ r, q = r + 1 := ⟨q - 1, by omega⟩
        have hr : r < S.length := by omega
        have hb := ins_before (k := i) hr
        have hLr : (idxv (S.take (r + 1) ++ i :: S.drop (r + 1)))[r]? = some (S[r] : Int) := by rw [idxv, List.getElem?_map, hb]; rfl
        have hsw := ins_swap (k := i) hr
        have hLs : ((idxv (S.take (r + 1) ++ i :: S.drop (r + 1))).set (r + 1) (S[r] : Int)).set r (i : Int) = idxv (S.take r ++ i :: S.drop r) := by
          rw [idxv, map_nat_set, map_nat_set, hsw]; rfl
        have hj := (hS.lt S[r] (List.getElem_mem hr)).1
        have hjl : S[r] < n.notes.length := by omega
        have hju : numAt n.notes S[r] = n.notes[S[r]].number := by simp [numAt, hjl]
        have hdr := List.drop_eq_getElem_cons hr
        have hfirst := fun (v : Int) h => hS.first hr (v := v) h
        have hput := fun h => hS.put hop (r + 1) h hge
        have hq1 : ((r + 1 : Nat) : Int) - 1 = (r : Int) := by omega
        have hwr : IntKind.i64.wrap (r : Int) = (r : Int) := i64w (by omega) (by omega)
        have hr1 : r < S.length + 1 := by omega
        have hp0 : (0 : Int) ≤ (r : Int) + 1 := by omega
        have hp1 : (0 : Int) < (r : Int) + 1 := by omega
        have hwr1 : IntKind.i64.wrap ((r : Int) + 1 - 1) = (r : Int) := i64w (by omega) (by omega) |>.trans (by omega)
        generalize S[r] = j at *
        generalize hy : n.notes[j] = y at *
        generalize hL : idxv (S.take (r + 1) ++ i :: S.drop (r + 1)) = L at *
        obtain ⟨_, hLre⟩ := List.getElem?_eq_some_iff.1 hLr
        obtain ⟨_, hLie⟩ := List.getElem?_eq_some_iff.1 hLi
        have hs : True := trivial
        repeat' first | (with_reducible first | refine q01 ?_ | refine q03 ?_ | refine q04 ?_ | refine q06 ?_ | refine q11 ?_ | refine q12 ?_ | refine q14 ?_ | refine q16 ?_) | (refine DT_regionM (id := 8) (nt := 72) 24 [0, 1, 2, 3, 4, 5, 6, 11, 20, 51] mixed rfl (by kernel_rfl) ?_; simp -dsimp [hw, hx, hlt, hy, hjl, hLie, hLre, hwr, hTl, hr, hr1, hp0, hp1, hwr1, hs]) | (with_reducible refine DT_regionE [0, 1, 2, 3, 4, 5, 6, 11, 20, 51] ?_; simp -dsimp [hw, hx, hlt, hy, hjl, hLie, hLre, hwr, hTl, hr, hr1, hp0, hp1, hwr1, hs]) | (refine DT_cond rfl (fun h => ?_) (fun h => ?_) <;> (try simp only [nrm] at h) <;> (try exact Bool.noConfusion h))
        all_goals try simp -dsimp [hw, hx, hlt, hy, hjl, hLie, hLre, hwr, hTl, hr, hr1, hp0, hp1, hwr1, hs]
        all_goals try clear hs
        · exact At.round ⟨r, by omega, fun z hz => by
            rw [hdr] at hz
            rcases List.mem_cons.1 hz with rfl | hz
            · omega
            · exact hge z hz⟩ (by simp) (Weak.of_keep [1,3,4,5] (by simp [← hLs]))
        · exact At.round ⟨(i + 1, g + 1, false, S.take (r + 1) ++ i :: S.drop (r + 1)), by omega, hput (hfirst _ (by omega))⟩ (by simp; omega) (Weak.of_keep [1,3,4] (by simp [hL, hTl]))
    · rw [decide_eq_false h1] at hop
      have hs : True := trivial
      repeat' first | (with_reducible first | refine q01 ?_ | refine q03 ?_ | refine q06 ?_ | refine q11 ?_ | refine q12 ?_ | refine q14 ?_ | refine q16 ?_) | (with_reducible refine DT_regionE [0, 1, 2, 3, 4, 5, 6, 11, 20, 51] ?_; simp -dsimp [hx, hlt, h1, hw, hs]) | (refine DT_cond rfl (fun h => ?_) (fun h => ?_) <;> (try simp only [nrm] at h) <;> (try exact Bool.noConfusion h))
      all_goals try simp -dsimp [hx, hlt, h1, hw, hs]
      all_goals try clear hs
      exact At.round ⟨(i + 1, g, nl, S), by omega, hS.skip hop⟩ (by simp; omega) (Weak.of_keep [1,3,4] (by simp))
  · obtain rfl : i = n.notes.length := by omega
    obtain rfl := openI_eq hok hS
    have hs : True := trivial
    repeat' first | (with_reducible first | refine q01 ?_ | refine q03 ?_ | refine q06 ?_ | refine q11 ?_ | refine q16 ?_ | refine q17 ?_) | (with_reducible refine At.fn_ret (by simp -dsimp [hlt, hs]; exact rfl) ?_) | (with_reducible refine DT_regionE [0, 1, 2, 3, 4, 5, 6, 11, 20, 51] ?_; simp -dsimp [hlt, hs]) | (refine DT_cond rfl (fun h => ?_) (fun h => ?_) <;> (try simp only [nrm] at h) <;> (try exact Bool.noConfusion h))
    all_goals try simp -dsimp [hlt, hs]
    all_goals try clear hs
    all_goals simp [idxv]
end Go.Proofs
namespace Go.Proofs
open Go Go.Ab
set_option linter.unusedSimpArgs false
variable {G : Nat → Option (List IC)}
set_option maxHeartbeats 2000000 in
theorem truth3_c (n : Notes) (s : List Int) (hs : NSm n) (hok : allOk n) (hsl : s.length < 1000) (objs : List DObj) : DCall Tryd.prog G 100 [notesv n, isv s] objs (fun rr objs' => rr = bv (truthB (isort (openL n.notes)) s) ∧ objs' = objs) := by
  refine DCall.frame ?_ (by simp) (by simp) objs
  refine DCall_intro Tryd.func100 rfl Tryd.ntmps100 (by simp) rfl ?_
  try simp only [notesv, isv]
  have hn16 := hs.2.1
  have c1 := open3_c (G := G) n hs hok
  have hnu := openI_nums (n := n)
  have hol := (openI_to n.notes).len
  have hOl : (isort (openL n.notes)).length = (openI n.notes).length := by rw [← hnu, List.length_map]
  generalize hO : isort (openL n.notes) = O at *
  have hs : True := trivial
  repeat' first | (with_reducible first | refine q01 ?_ | refine q11 ?_ | refine q12 ?_) | (refine CallE.pure (c1) ?_; try simp -dsimp [hs]) | (with_reducible refine DT_regionE [0, 1, 2, 4, 5, 6, 7, 8, 14, 32, 57] ?_; simp -dsimp [hs])
  all_goals try simp -dsimp [hs]
  all_goals try clear hs
  refine DT_loop (ι := { p : Nat × Nat × Bool // p.1 ≤ (openI n.notes).length }) (fun p => ⟨58, [(1, isv s), (2, .one (.ptr 0 0)), (5, .one (.vec 1 p.1.2.1 0 (O.take p.1.1).length)), (6, isv (idxv (openI n.notes))), (7, iv (p.1.1 : Int))], [.row ((encNotes n).map .im), .vec 1 (ims ((O.take p.1.1).map encI)) p.1.2.1 p.1.2.2]⟩) (fun p => (openI n.notes).length - p.1.1) ⟨(0, 0, true), by simp⟩ (Weak.of_keep [1,2,5,6,7] (by simp [idxv])) ?_
  rintro ⟨⟨j, g, nl⟩, hj⟩
  simp only at hj
  simp only [iv, isv]
  have hil : (idxv (openI n.notes)).length = (openI n.notes).length := by simp [idxv]
  by_cases hlt : j < (openI n.notes).length
  · have hw : IntKind.i64.wrap ((j : Int) + 1) = ((j + 1 : Nat) : Int) := i64w (by omega) (by omega)
    have hjO : j < O.length := by omega
    have hst : O.take (j + 1) = O.take j ++ [O[j]] := List.take_succ_eq_append_getElem hjO
    have htl : (O.take j).length = j := by simp; omega
    have hie : (idxv (openI n.notes))[j]? = some ((openI n.notes)[j] : Int) := by simp [idxv, hlt]
    obtain ⟨hil2, hie⟩ := List.getElem?_eq_some_iff.1 hie
    have hkl := openI_lt (List.getElem_mem hlt)
    have hOj : O[j] = n.notes[(openI n.notes)[j]].number := by
      have : O[j]? = some (numAt n.notes (openI n.notes)[j]) := by rw [← hnu, List.getElem?_map, List.getElem?_eq_getElem hlt]; rfl
      rw [List.getElem?_eq_getElem hjO] at this
      rw [Option.some.inj this]; simp [numAt, hkl]
    rw [hOj] at hst
    generalize (openI n.notes)[j] = k at *
    generalize hx : n.notes[k] = x at *
    generalize idxv (openI n.notes) = I at *
    generalize O.take j = L at *
    subst htl
    have hs : True := trivial
    repeat' first | (with_reducible first | refine q01 ?_ | refine q04 ?_ | refine q11 ?_ | refine q12 ?_ | refine q14 ?_ | refine And.intro (by omega) ?_) | (refine DT_regionM (id := 6) (nt := 58) 11 [0, 1, 2, 4, 5, 6, 7, 8, 14, 32, 57] mixed rfl (by kernel_rfl) ?_; simp -dsimp [hx, hkl, hlt, hw, hie, hil, hil2, hs]) | (with_reducible refine DT_regionE [0, 1, 2, 4, 5, 6, 7, 8, 14, 32, 57] ?_; simp -dsimp [hx, hkl, hlt, hw, hie, hil, hil2, hs]) | (refine DT_cond rfl (fun h => ?_) (fun h => ?_) <;> (try simp only [nrm] at h) <;> (try exact Bool.noConfusion h))
    all_goals try simp -dsimp [hx, hkl, hlt, hw, hie, hil, hil2, hs]
    all_goals try clear hs
    all_goals exact At.round ⟨(L.length + 1, g + 1, false), by omega⟩ (by simp; omega) (Weak.of_drop [1,2,5,6,7] 2 (by simp) (by simp) (by simp [hst]))
  · obtain rfl : j = (openI n.notes).length := by omega
    rw [show O.take (openI n.notes).length = O from List.take_of_length_le (by omega)]
    have hs : True := trivial
    repeat' first | (with_reducible first | refine q01 ?_ | refine q03 ?_ | refine q06 ?_ | refine q11 ?_ | refine q12 ?_ | refine q16 ?_) | (with_reducible refine DT_regionE [0, 1, 2, 4, 5, 6, 7, 8, 14, 32, 57] ?_; simp -dsimp [hlt, hil, hs]) | (refine DT_cond rfl (fun h => ?_) (fun h => ?_) <;> (try simp only [nrm] at h) <;> (try exact Bool.noConfusion h))
    all_goals try simp -dsimp [hlt, hil, hs]
    all_goals try clear hs
    refine DT_loop (ι := { i : Nat // i ≤ s.length ∧ truthTo O s i }) (fun p => ⟨58, [(1, isv s), (5, isv O), (8, iv (p.1 : Int))], [.row ((encNotes n).map .im)]⟩) (fun p => s.length - p.1) ⟨0, by simp, fun i v h => by omega⟩ (Weak.of_drop [1,5,8] 1 (by simp) (by simp) (by simp)) ?_
    rintro ⟨i, hi, hto⟩
    simp only [iv, isv]
    by_cases hlt2 : i < s.length
    · have hx0 : s[i]? = some s[i] := by simp [hlt2]
      have hw : IntKind.i64.wrap ((i : Int) + 1) = ((i + 1 : Nat) : Int) := i64w (by omega) (by omega)
      have c2 := has3_c (G := G) O s[i] (by omega)
      generalize hv : s[i] = v at *
      by_cases hmem : v ∈ O
      · rw [decide_eq_true hmem] at c2
        by_cases h00 : i = 0
        · have hnext := truthTo_step hto hx0 hmem (fun j u e => by omega)
          subst h00
          have hs : True := trivial
          repeat' first | (with_reducible first | refine q01 ?_ | refine q04 ?_ | refine q11 ?_ | refine q12 ?_ | refine q14 ?_) | (refine QCall_pure (c2) ?_; try simp -dsimp [hv, hlt2, hs]) | (refine DT_regionM (id := 10) (nt := 58) 23 [0, 1, 2, 4, 5, 6, 7, 8, 14, 32, 57] mixed rfl (by kernel_rfl) ?_; simp -dsimp [hv, hlt2, hs]) | (with_reducible refine DT_regionE [0, 1, 2, 4, 5, 6, 7, 8, 14, 32, 57] ?_; simp -dsimp [hv, hlt2, hs]) | (refine DT_cond rfl (fun h => ?_) (fun h => ?_) <;> (try simp only [nrm] at h) <;> (try exact Bool.noConfusion h))
          all_goals try simp -dsimp [hv, hlt2, hs]
          all_goals try clear hs
          exact At.round ⟨0 + 1, by omega, hnext⟩ (by simp; omega) (Weak.of_keep [1,5,8] (by simp; exact i64w (by omega) (by omega)))
        · have hq : i - 1 < s.length := by omega
          have hwq : IntKind.i64.wrap ((i : Int) - 1) = ((i - 1 : Nat) : Int) := by rw [i64w (by omega) (by omega)]; omega
          have hi0 : (0 : Int) < (i : Int) := by omega
          have hin0 : 0 < i := by omega
          have hu0 : s[i - 1]? = some s[i - 1] := by simp [hq]
          generalize hu : s[i - 1] = u at *
          by_cases hlu : v ≤ u
          · have hb := truth_bad (o := O) hx0 (.inr ⟨i - 1, u, by omega, hu0, hlu⟩)
            have hs : True := trivial
            repeat' first | (with_reducible first | refine q01 ?_ | refine q02 ?_ | refine q05 ?_ | refine q11 ?_ | refine q12 ?_ | refine q14 ?_ | refine q17 ?_) | (with_reducible refine At.fn_ret (by simp -dsimp [hv, hu, hq, hlt2, hw, hwq, hi0, hin0, hlu, hs]; exact rfl) ?_) | (refine QCall_pure (c2) ?_; try simp -dsimp [hv, hu, hq, hlt2, hw, hwq, hi0, hin0, hlu, hs]) | (refine DT_regionM (id := 10) (nt := 58) 23 [0, 1, 2, 4, 5, 6, 7, 8, 14, 32, 57] mixed rfl (by kernel_rfl) ?_; simp -dsimp [hv, hu, hq, hlt2, hw, hwq, hi0, hin0, hlu, hs]) | (with_reducible refine DT_regionE [0, 1, 2, 4, 5, 6, 7, 8, 14, 32, 57] ?_; simp -dsimp [hv, hu, hq, hlt2, hw, hwq, hi0, hin0, hlu, hs]) | (refine DT_cond rfl (fun h => ?_) (fun h => ?_) <;> (try simp only [nrm] at h) <;> (try exact Bool.noConfusion h))
            all_goals try simp -dsimp [hv, hu, hq, hlt2, hw, hwq, hi0, hin0, hlu, hs]
            all_goals try clear hs
            all_goals simp [hb]
          · have hnext := truthTo_step hto hx0 hmem (fun j u' e hu' => by
              obtain rfl : i - 1 = j := by omega
              rw [hu0] at hu'; cases hu'; omega)
            have hs : True := trivial
            repeat' first | (with_reducible first | refine q01 ?_ | refine q04 ?_ | refine q11 ?_ | refine q12 ?_ | refine q14 ?_) | (refine QCall_pure (c2) ?_; try simp -dsimp [hv, hu, hq, hlt2, hw, hwq, hi0, hin0, hlu, hs]) | (refine DT_regionM (id := 10) (nt := 58) 23 [0, 1, 2, 4, 5, 6, 7, 8, 14, 32, 57] mixed rfl (by kernel_rfl) ?_; simp -dsimp [hv, hu, hq, hlt2, hw, hwq, hi0, hin0, hlu, hs]) | (with_reducible refine DT_regionE [0, 1, 2, 4, 5, 6, 7, 8, 14, 32, 57] ?_; simp -dsimp [hv, hu, hq, hlt2, hw, hwq, hi0, hin0, hlu, hs]) | (refine DT_cond rfl (fun h => ?_) (fun h => ?_) <;> (try simp only [nrm] at h) <;> (try exact Bool.noConfusion h))
            all_goals try simp -dsimp [hv, hu, hq, hlt2, hw, hwq, hi0, hin0, hlu, hs]
            all_goals try clear hs
            exact At.round ⟨i + 1, by omega, hnext⟩ (by simp; omega) (Weak.of_keep [1,5,8] (by simp))
      · rw [decide_eq_false hmem] at c2
        have hb := truth_bad (o := O) hx0 (.inl hmem)
        have hs : True := trivial
        repeat' first | (with_reducible first | refine q01 ?_ | refine q02 ?_ | refine q05 ?_ | refine q11 ?_ | refine q12 ?_ | refine q14 ?_ | refine q17 ?_) | (with_reducible refine At.fn_ret (by simp -dsimp [hv, hlt2, hs]; exact rfl) ?_) | (refine QCall_pure (c2) ?_; try simp -dsimp [hv, hlt2, hs]) | (refine DT_regionM (id := 10) (nt := 58) 23 [0, 1, 2, 4, 5, 6, 7, 8, 14, 32, 57] mixed rfl (by kernel_rfl) ?_; simp -dsimp [hv, hlt2, hs]) | (with_reducible refine DT_regionE [0, 1, 2, 4, 5, 6, 7, 8, 14, 32, 57] ?_; simp -dsimp [hv, hlt2, hs]) | (refine DT_cond rfl (fun h => ?_) (fun h => ?_) <;> (try simp only [nrm] at h) <;> (try exact Bool.noConfusion h))
        all_goals try simp -dsimp [hv, hlt2, hs]
        all_goals try clear hs
        all_goals simp [hb]
    · have hb : truthB O s = true := truth_good (truthTo_all (by rwa [show i = s.length by omega] at hto))
      have hs : True := trivial
      repeat' first | (with_reducible first | refine q01 ?_ | refine q03 ?_ | refine q06 ?_ | refine q11 ?_ | refine q16 ?_ | refine q17 ?_) | (with_reducible refine At.fn_ret (by simp -dsimp [hlt2, hs]; exact rfl) ?_) | (with_reducible refine DT_regionE [0, 1, 2, 4, 5, 6, 7, 8, 14, 32, 57] ?_; simp -dsimp [hlt2, hs]) | (refine DT_cond rfl (fun h => ?_) (fun h => ?_) <;> (try simp only [nrm] at h) <;> (try exact Bool.noConfusion h))
      all_goals try simp -dsimp [hlt2, hs]
      all_goals try clear hs
      all_goals simp [hb]
theorem asked3_c (n : Notes) (s : List Int) (m : Int) (hs : NSm n) (hsl : s.length < 1000) (objs : List DObj) : DCall Tryd.prog G 53 [notesv n, isv s, iv m] objs (fun rr objs' => rr = iv (askedE n s m) ∧ objs' = objs) := by
  refine DCall.frame ?_ (by simp) (by simp) objs
  refine DCall_intro Tryd.func53 rfl Tryd.ntmps53 (by simp) rfl ?_
  try simp only [notesv, isv, iv]
  have c1 := check3_c (G := G) n hs
  by_cases h0 : notesE n = 0
  · rw [h0] at c1
    have c2 := truth3_c (G := G) n s hs (notes_ok h0).2.2.1 hsl
    have c3 := within3_c (G := G) m 1 999
    have hE : askedE n s m = if truthB (isort (openL n.notes)) s = false then 31 else if 1 ≤ m ∧ m ≤ 999 then 0 else 2 := by unfold askedE; rw [if_neg (by simp [h0])]
    cases ht : truthB (isort (openL n.notes)) s
    · rw [ht] at c2 hE
      have hE : askedE n s m = 31 := by rw [hE]; rfl
      have hs : True := trivial
      repeat' first | (with_reducible first | refine q01 ?_ | refine q02 ?_ | refine q11 ?_ | refine q14 ?_ | refine q17 ?_) | (with_reducible refine At.fn_ret (by simp -dsimp [hs]; exact rfl) ?_) | (refine CallE.pure (c1) ?_; try simp -dsimp [hs]) | (refine CallE.pure (c2) ?_; try simp -dsimp [hs]) | (with_reducible refine DT_regionE [0, 1, 2, 3, 6, 7, 11, 16, 19] ?_; simp -dsimp [hs]) | (refine DT_cond rfl (fun h => ?_) (fun h => ?_) <;> (try simp only [nrm] at h) <;> (try exact Bool.noConfusion h))
      all_goals try simp -dsimp [hs]
      all_goals try clear hs
      all_goals simp [hE]
    · rw [ht] at c2 hE
      by_cases hm : 1 ≤ m ∧ m ≤ 999
      · have hE : askedE n s m = 0 := by rw [hE, if_neg (by simp), if_pos hm]
        rw [show (decide (1 ≤ m) && decide (m ≤ 999)) = true by simp [hm]] at c3
        have hs : True := trivial
        repeat' first | (with_reducible first | refine q01 ?_ | refine q11 ?_ | refine q14 ?_ | refine q17 ?_) | (with_reducible refine At.fn_ret (by simp -dsimp [hs]; exact rfl) ?_) | (refine CallE.pure (c1) ?_; try simp -dsimp [hs]) | (refine CallE.pure (c2) ?_; try simp -dsimp [hs]) | (refine CallE.pure (c3) ?_; try simp -dsimp [hs]) | (with_reducible refine DT_regionE [0, 1, 2, 3, 6, 7, 11, 16, 19] ?_; simp -dsimp [hs]) | (refine DT_cond rfl (fun h => ?_) (fun h => ?_) <;> (try simp only [nrm] at h) <;> (try exact Bool.noConfusion h))
        all_goals try simp -dsimp [hs]
        all_goals try clear hs
        all_goals simp [hE]
      · have hE : askedE n s m = 2 := by rw [hE, if_neg (by simp), if_neg hm]
        rw [show (decide (1 ≤ m) && decide (m ≤ 999)) = false by simp; omega] at c3
        have hs : True := trivial
        repeat' first | (with_reducible first | refine q01 ?_ | refine q02 ?_ | refine q11 ?_ | refine q14 ?_ | refine q17 ?_) | (with_reducible refine At.fn_ret (by simp -dsimp [hs]; exact rfl) ?_) | (refine CallE.pure (c1) ?_; try simp -dsimp [hs]) | (refine CallE.pure (c2) ?_; try simp -dsimp [hs]) | (refine CallE.pure (c3) ?_; try simp -dsimp [hs]) | (with_reducible refine DT_regionE [0, 1, 2, 3, 6, 7, 11, 16, 19] ?_; simp -dsimp [hs]) | (refine DT_cond rfl (fun h => ?_) (fun h => ?_) <;> (try simp only [nrm] at h) <;> (try exact Bool.noConfusion h))
        all_goals try simp -dsimp [hs]
        all_goals try clear hs
        all_goals simp [hE]
  · have hE : askedE n s m = notesE n := by unfold askedE; rw [if_pos h0]
    have hs : True := trivial
    repeat' first | (with_reducible first | refine q01 ?_ | refine q02 ?_ | refine q11 ?_ | refine q17 ?_) | (with_reducible refine At.fn_ret (by simp -dsimp [h0, hs]; exact rfl) ?_) | (refine CallE.pure (c1) ?_; try simp -dsimp [h0, hs]) | (with_reducible refine DT_regionE [0, 1, 2, 3, 6, 7, 11, 16, 19] ?_; simp -dsimp [h0, hs]) | (refine DT_cond rfl (fun h => ?_) (fun h => ?_) <;> (try simp only [nrm] at h) <;> (try exact Bool.noConfusion h))
    all_goals try simp -dsimp [h0, hs]
    all_goals try clear hs
    all_goals simp [hE, h0]
end Go.Proofs
namespace Go.Proofs
open Go Go.Ab
set_option linter.unusedSimpArgs false
variable {G : Nat → Option (List IC)}
def lettersK (n : Notes) (s : List Int) (m : Int) : List Int := (nums n.reg).map fun d => letterK n.notes (frcL s [] m n.notes) d
set_option maxHeartbeats 1000000 in
theorem letters3_c (n : Notes) (s : List Int) (m : Int) (hl : n.notes.length < 1000) (hr : n.reg.length < 1000) (hsl : s.length < 1000) (objs : List DObj) : DCall Tryd.prog G 56 [notesv n, isv s, iv m] objs (fun rr objs' => rr = isv (lettersK n s m) ∧ objs' = objs) := by
  refine DCall.frame ?_ (by simp) (by simp) objs
  refine DCall_intro Tryd.func56 rfl Tryd.ntmps56 (by simp) rfl ?_
  try simp only [notesv, isv, iv]
  have c1 := force3_c (G := G) n s [] m hl hsl (by simp)
  have c2 := numbers_c (G := G) n.reg (by omega)
  have hFl := frcL_len s [] m n.notes
  have c3 := fun d => letter3_c (G := G) n (frcL s [] m n.notes) d hFl hl
  have hrl := numsTo_length n.reg n.reg.length
  rw [show numsTo n.reg n.reg.length = nums n.reg from rfl] at hrl
  have hE : lettersK n s m = (nums n.reg).map fun d => letterK n.notes (frcL s [] m n.notes) d := rfl
  generalize frcL s [] m n.notes = F at *
  simp only [isv, List.map_nil] at c1
  have hs : True := trivial
  repeat' first | (with_reducible first | refine q01 ?_ | refine q11 ?_ | refine q12 ?_) | (refine CallE.pure (c1) ?_; try simp -dsimp [hs]) | (refine CallE.pure (c2) ?_; try simp -dsimp [hs]) | (with_reducible refine DT_regionE [0, 1, 2, 3, 6, 7, 8, 9, 10, 21] ?_; simp -dsimp [hs])
  all_goals try simp -dsimp [hs]
  all_goals try clear hs
  generalize hP : (fun d => letterK n.notes F d) = P at *
  have hPd : ∀ d, letterK n.notes F d = P d := fun d => by rw [← hP]
  generalize hns : nums n.reg = ns at *
  refine DT_loop (ι := { p : Nat × Nat × Bool // p.1 ≤ ns.length }) (fun p => ⟨35, [(3, .one (.ptr 0 0)), (7, bsv F), (8, .one (.vec 2 p.1.2.1 0 ((ns.take p.1.1).map P).length)), (9, isv ns), (10, iv (p.1.1 : Int))], [.row ((encNotes n).map .im), .vec 1 [] 0 true, .vec 1 (ims (((ns.take p.1.1).map P).map encI)) p.1.2.1 p.1.2.2]⟩) (fun p => ns.length - p.1.1) ⟨(0, 0, true), by simp⟩ (Weak.of_keep [3,7,8,9,10] (by simp)) ?_
  rintro ⟨⟨k, g, nl⟩, hk⟩
  simp only at hk
  simp only [iv, isv, bsv]
  have hlk : ((ns.take k).map P).length = k := by simp; omega
  by_cases hlt : k < ns.length
  · have hw : IntKind.i64.wrap ((k : Int) + 1) = ((k + 1 : Nat) : Int) := i64w (by omega) (by omega)
    have hst : (ns.take (k + 1)).map P = (ns.take k).map P ++ [P ns[k]] := by rw [List.take_succ_eq_append_getElem hlt, List.map_append, List.map_singleton]
    generalize hx : ns[k] = x at *
    have c4 := c3 x
    rw [hPd] at c4
    simp only [bsv] at c4
    generalize (ns.take k).map P = L at *
    subst hlk
    have hs : True := trivial
    repeat' first | (with_reducible first | refine q01 ?_ | refine q04 ?_ | refine q11 ?_ | refine q12 ?_ | refine q14 ?_ | refine And.intro (by omega) ?_) | (refine QCall_pure (c4) ?_; try simp -dsimp [hx, hlt, hw, hs]) | (refine DT_regionM (id := 7) (nt := 35) 9 [0, 1, 2, 3, 6, 7, 8, 9, 10, 21] mixed rfl (by kernel_rfl) ?_; simp -dsimp [hx, hlt, hw, hs]) | (with_reducible refine DT_regionE [0, 1, 2, 3, 6, 7, 8, 9, 10, 21] ?_; simp -dsimp [hx, hlt, hw, hs]) | (refine DT_cond rfl (fun h => ?_) (fun h => ?_) <;> (try simp only [nrm] at h) <;> (try exact Bool.noConfusion h))
    all_goals try simp -dsimp [hx, hlt, hw, hs]
    all_goals try clear hs
    all_goals exact At.round ⟨(L.length + 1, g + 1, false), by simp only; omega⟩ (by simp; omega) (Weak.of_drop [3,7,8,9,10] 3 (by simp) (by simp) (by simp [hst]))
  · obtain rfl : k = ns.length := by omega
    rw [List.take_length] at hlk ⊢
    have hs : True := trivial
    repeat' first | (with_reducible first | refine q01 ?_ | refine q03 ?_ | refine q06 ?_ | refine q11 ?_ | refine q16 ?_ | refine q17 ?_) | (with_reducible refine At.fn_ret (by simp -dsimp [hlt, hs]; exact rfl) ?_) | (with_reducible refine DT_regionE [0, 1, 2, 3, 6, 7, 8, 9, 10, 21] ?_; simp -dsimp [hlt, hs]) | (refine DT_cond rfl (fun h => ?_) (fun h => ?_) <;> (try simp only [nrm] at h) <;> (try exact Bool.noConfusion h))
    all_goals try simp -dsimp [hlt, hs]
    all_goals try clear hs
    simp [hE]
set_option maxHeartbeats 1000000 in
theorem rForce_c (n : Notes) (s : List Int) (m : Int) (hs : NSm n) (hsl : s.length < 1000) (objs : List DObj) : DCall Tryd.prog G 19 [notesv n, isv s, iv m] objs (fun rr objs' => rr = .tup [isv (if askedE n s m = 0 then inT n.notes (frcL s [] m n.notes) n.notes.length else []), iv (askedE n s m)] ∧ objs' = objs) := by
  refine DCall.frame ?_ (by simp) (by simp) objs
  refine DCall_intro Tryd.func19 rfl Tryd.ntmps19 (by simp) rfl ?_
  try simp only [notesv, isv, iv]
  have c1 := asked3_c (G := G) n s m hs hsl
  have hn16 := hs.2.1
  by_cases h0 : askedE n s m = 0
  · rw [h0] at c1
    have c2 := force3_c (G := G) n s [] m (by omega) hsl (by simp)
    have hFl := frcL_len s [] m n.notes
    rw [if_pos h0]
    generalize frcL s [] m n.notes = F at *
    simp only [isv, List.map_nil] at c2
    have hs : True := trivial
    repeat' first | (with_reducible first | refine q01 ?_ | refine q11 ?_ | refine q12 ?_ | refine q14 ?_) | (refine CallE.pure (c1) ?_; try simp -dsimp [hs]) | (refine CallE.pure (c2) ?_; try simp -dsimp [hs]) | (with_reducible refine DT_regionE [0, 1, 2, 3, 6, 7, 8, 9, 10, 11, 17, 26, 32] ?_; simp -dsimp [hs]) | (refine DT_cond rfl (fun h => ?_) (fun h => ?_) <;> (try simp only [nrm] at h) <;> (try exact Bool.noConfusion h))
    all_goals try simp -dsimp [hs]
    all_goals try clear hs
    refine DT_loop (ι := { p : Nat × Nat × Bool // p.1 ≤ F.length }) (fun p => ⟨43, [(3, .one (.ptr 0 0)), (9, .one (.vec 2 p.1.2.1 0 (inT n.notes F p.1.1).length)), (10, bsv F), (11, iv (p.1.1 : Int))], [.row ((encNotes n).map .im), .vec 1 [] 0 true, .vec 1 (ims ((inT n.notes F p.1.1).map encI)) p.1.2.1 p.1.2.2]⟩) (fun p => F.length - p.1.1) ⟨(0, 0, true), by simp⟩ (Weak.of_keep [3,9,10,11] (by simp [inT_zero])) ?_
    rintro ⟨⟨k, g, nl⟩, hk⟩
    simp only at hk
    simp only [iv, bsv]
    have hlk := inT_len n.notes F k
    by_cases hlt : k < F.length
    · have hw : IntKind.i64.wrap ((k : Int) + 1) = ((k + 1 : Nat) : Int) := i64w (by omega) (by omega)
      have hlt2 : k < n.notes.length := by omega
      have hst := inT_succ hlt2 hlt
      generalize hx : n.notes[k] = x at *
      generalize hb : F[k] = b at *
      generalize inT n.notes F k = L at *
      cases b
      · have e := hst.trans (by rw [if_neg Bool.false_ne_true, List.append_nil])
        have hs : True := trivial
        repeat' first | (with_reducible first | refine q01 ?_ | refine q04 ?_ | refine q11 ?_ | refine q12 ?_ | refine q14 ?_) | (with_reducible refine DT_regionE [0, 1, 2, 3, 6, 7, 8, 9, 10, 11, 17, 26, 32] ?_; simp -dsimp [hx, hb, hlt, hlt2, hw, hs]) | (refine DT_cond rfl (fun h => ?_) (fun h => ?_) <;> (try simp only [nrm] at h) <;> (try exact Bool.noConfusion h))
        all_goals try simp -dsimp [hx, hb, hlt, hlt2, hw, hs]
        all_goals try clear hs
        exact At.round ⟨(k + 1, g, nl), by simp only; omega⟩ (by simp; omega) (Weak.of_drop [3,9,10,11] 3 (by simp) (by simp) (by simp [e]))
      · have e := hst.trans (by rw [if_pos rfl])
        have hs : True := trivial
        repeat' first | (with_reducible first | refine q01 ?_ | refine q04 ?_ | refine q11 ?_ | refine q12 ?_ | refine q14 ?_ | refine And.intro (by omega) ?_) | (with_reducible refine DT_regionE [0, 1, 2, 3, 6, 7, 8, 9, 10, 11, 17, 26, 32] ?_; simp -dsimp [hx, hb, hlt, hlt2, hw, hs]) | (refine DT_cond rfl (fun h => ?_) (fun h => ?_) <;> (try simp only [nrm] at h) <;> (try exact Bool.noConfusion h))
        all_goals try simp -dsimp [hx, hb, hlt, hlt2, hw, hs]
        all_goals try clear hs
        exact At.round ⟨(k + 1, g + 1, false), by simp only; omega⟩ (by simp; omega) (Weak.of_drop [3,9,10,11] 3 (by simp) (by simp) (by simp [e]))
    · obtain rfl : k = n.notes.length := by omega
      have hs : True := trivial
      repeat' first | (with_reducible first | refine q01 ?_ | refine q03 ?_ | refine q06 ?_ | refine q11 ?_ | refine q16 ?_ | refine q17 ?_) | (with_reducible refine At.fn_ret (by simp -dsimp [hlt, hs]; exact rfl) ?_) | (with_reducible refine DT_regionE [0, 1, 2, 3, 6, 7, 8, 9, 10, 11, 17, 26, 32] ?_; simp -dsimp [hlt, hs]) | (refine DT_cond rfl (fun h => ?_) (fun h => ?_) <;> (try simp only [nrm] at h) <;> (try exact Bool.noConfusion h))
      all_goals try simp -dsimp [hlt, hs]
      all_goals try clear hs
      all_goals simp [h0]
  · have hs : True := trivial
    repeat' first | (with_reducible first | refine q01 ?_ | refine q02 ?_ | refine q11 ?_ | refine q17 ?_) | (with_reducible refine At.fn_ret (by simp -dsimp [h0, hs]; exact rfl) ?_) | (refine CallE.pure (c1) ?_; try simp -dsimp [h0, hs]) | (with_reducible refine DT_regionE [0, 1, 2, 3, 6, 7, 8, 9, 10, 11, 17, 26, 32] ?_; simp -dsimp [h0, hs]) | (refine DT_cond rfl (fun h => ?_) (fun h => ?_) <;> (try simp only [nrm] at h) <;> (try exact Bool.noConfusion h))
    all_goals try simp -dsimp [h0, hs]
    all_goals try clear hs
    all_goals simp [h0]
theorem rLetters_c (n : Notes) (s : List Int) (m : Int) (hs : NSm n) (hsl : s.length < 1000) (objs : List DObj) : DCall Tryd.prog G 21 [notesv n, isv s, iv m] objs (fun rr objs' => rr = .tup [isv (if askedE n s m = 0 then lettersK n s m else []), iv (askedE n s m)] ∧ objs' = objs) := by
  refine DCall.frame ?_ (by simp) (by simp) objs
  refine DCall_intro Tryd.func21 rfl Tryd.ntmps21 (by simp) rfl ?_
  try simp only [notesv, isv, iv]
  have c1 := asked3_c (G := G) n s m hs hsl
  have hn16 := hs.2.1
  have hr80 := hs.1.1
  by_cases h0 : askedE n s m = 0
  · rw [h0] at c1
    have c2 := letters3_c (G := G) n s m (by omega) (by omega) hsl
    rw [if_pos h0]
    have hs : True := trivial
    repeat' first | (with_reducible first | refine q01 ?_ | refine q11 ?_ | refine q14 ?_ | refine q17 ?_) | (with_reducible refine At.fn_ret (by simp -dsimp [hs]; exact rfl) ?_) | (refine CallE.pure (c1) ?_; try simp -dsimp [hs]) | (refine CallE.pure (c2) ?_; try simp -dsimp [hs]) | (with_reducible refine DT_regionE [0, 1, 2, 3, 6, 7, 8, 14] ?_; simp -dsimp [hs]) | (refine DT_cond rfl (fun h => ?_) (fun h => ?_) <;> (try simp only [nrm] at h) <;> (try exact Bool.noConfusion h))
    all_goals try simp -dsimp [hs]
    all_goals try clear hs
    all_goals simp [h0]
  · have hs : True := trivial
    repeat' first | (with_reducible first | refine q01 ?_ | refine q02 ?_ | refine q11 ?_ | refine q17 ?_) | (with_reducible refine At.fn_ret (by simp -dsimp [h0, hs]; exact rfl) ?_) | (refine CallE.pure (c1) ?_; try simp -dsimp [h0, hs]) | (with_reducible refine DT_regionE [0, 1, 2, 3, 6, 7, 8, 14] ?_; simp -dsimp [h0, hs]) | (refine DT_cond rfl (fun h => ?_) (fun h => ?_) <;> (try simp only [nrm] at h) <;> (try exact Bool.noConfusion h))
    all_goals try simp -dsimp [h0, hs]
    all_goals try clear hs
    all_goals simp [h0]
def byKn (n : Notes) (s : List Int) (m d : Int) : Int := if byK n.notes (frcL s [] m n.notes) d n.notes.length < 0 then 0 else match n.notes[(byK n.notes (frcL s [] m n.notes) d n.notes.length).toNat]? with | some x => x.number | none => 0
theorem rBy_c (n : Notes) (s : List Int) (d m : Int) (hs : NSm n) (hsl : s.length < 1000) (objs : List DObj) : DCall Tryd.prog G 23 [notesv n, isv s, iv d, iv m] objs (fun rr objs' => rr = .tup [iv (if drawnE n s m d = 0 then byKn n s m d else 0), iv (drawnE n s m d)] ∧ objs' = objs) := by
  refine DCall.frame ?_ (by simp) (by simp) objs
  refine DCall_intro Tryd.func23 rfl Tryd.ntmps23 (by simp) rfl ?_
  try simp only [notesv, isv, iv, iv]
  have c1 := asked3_c (G := G) n s m hs hsl
  have hn16 := hs.2.1
  have hr80 := hs.1.1
  have c2 := known3_c (G := G) n d (by omega)
  by_cases h0 : askedE n s m = 0
  · rw [h0] at c1
    have hE : drawnE n s m d = if d ∈ nums n.reg then 0 else 6 := by unfold drawnE; rw [if_neg (by simp [h0])]
    by_cases hd : d ∈ nums n.reg
    · rw [decide_eq_true hd] at c2
      rw [if_pos hd] at hE
      have c3 := force3_c (G := G) n s [] m (by omega) hsl (by simp)
      have hFl := frcL_len s [] m n.notes
      have c4 := by3_c (G := G) n (frcL s [] m n.notes) d hFl (by omega)
      have hlt := byK_lt n.notes (frcL s [] m n.notes) d n.notes.length
      rw [if_pos hE, byKn]
      rw [hFl] at c4
      generalize byK n.notes (frcL s [] m n.notes) d n.notes.length = z at *
      generalize frcL s [] m n.notes = F at *
      simp only [isv, bsv, List.map_nil] at c3 c4
      by_cases hz : z < 0
      · rw [if_pos hz]
        have hs : True := trivial
        repeat' first | (with_reducible first | refine q01 ?_ | refine q02 ?_ | refine q11 ?_ | refine q14 ?_ | refine q17 ?_) | (with_reducible refine At.fn_ret (by simp -dsimp [hz, hs]; exact rfl) ?_) | (refine CallE.pure (c1) ?_; try simp -dsimp [hz, hs]) | (refine CallE.pure (c2) ?_; try simp -dsimp [hz, hs]) | (refine QCall_pure (c3) ?_; try simp -dsimp [hz, hs]) | (refine QCall_pure (c4) ?_; try simp -dsimp [hz, hs]) | (refine DT_regionM (id := 6) (nt := 38) 8 [0, 1, 2, 3, 4, 8, 9, 10, 11, 17, 22, 31] mixed rfl (by kernel_rfl) ?_; simp -dsimp [hz, hs]) | (with_reducible refine DT_regionE [0, 1, 2, 3, 4, 8, 9, 10, 11, 17, 22, 31] ?_; simp -dsimp [hz, hs]) | (refine DT_cond rfl (fun h => ?_) (fun h => ?_) <;> (try simp only [nrm] at h) <;> (try exact Bool.noConfusion h))
        all_goals try simp -dsimp [hz, hs]
        all_goals try clear hs
        all_goals simp [hE]
      · rw [if_neg hz]
        obtain ⟨j, rfl⟩ := Int.eq_ofNat_of_zero_le (show 0 ≤ z by omega)
        have hj : j < n.notes.length := by omega
        have hs : True := trivial
        repeat' first | (with_reducible first | refine q01 ?_ | refine q11 ?_ | refine q14 ?_ | refine q17 ?_) | (with_reducible refine At.fn_ret (by simp -dsimp [hz, hj, hs]; exact rfl) ?_) | (refine CallE.pure (c1) ?_; try simp -dsimp [hz, hj, hs]) | (refine CallE.pure (c2) ?_; try simp -dsimp [hz, hj, hs]) | (refine QCall_pure (c3) ?_; try simp -dsimp [hz, hj, hs]) | (refine QCall_pure (c4) ?_; try simp -dsimp [hz, hj, hs]) | (refine DT_regionM (id := 6) (nt := 38) 8 [0, 1, 2, 3, 4, 8, 9, 10, 11, 17, 22, 31] mixed rfl (by kernel_rfl) ?_; simp -dsimp [hz, hj, hs]) | (with_reducible refine DT_regionE [0, 1, 2, 3, 4, 8, 9, 10, 11, 17, 22, 31] ?_; simp -dsimp [hz, hj, hs]) | (refine DT_cond rfl (fun h => ?_) (fun h => ?_) <;> (try simp only [nrm] at h) <;> (try exact Bool.noConfusion h))
        all_goals try simp -dsimp [hz, hj, hs]
        all_goals try clear hs
        all_goals simp [hE, hj]
    · rw [decide_eq_false hd] at c2
      rw [if_neg hd] at hE
      have hs : True := trivial
      repeat' first | (with_reducible first | refine q01 ?_ | refine q02 ?_ | refine q11 ?_ | refine q14 ?_ | refine q17 ?_) | (with_reducible refine At.fn_ret (by simp -dsimp [hs]; exact rfl) ?_) | (refine CallE.pure (c1) ?_; try simp -dsimp [hs]) | (refine CallE.pure (c2) ?_; try simp -dsimp [hs]) | (with_reducible refine DT_regionE [0, 1, 2, 3, 4, 8, 9, 10, 11, 17, 22, 31] ?_; simp -dsimp [hs]) | (refine DT_cond rfl (fun h => ?_) (fun h => ?_) <;> (try simp only [nrm] at h) <;> (try exact Bool.noConfusion h))
      all_goals try simp -dsimp [hs]
      all_goals try clear hs
      all_goals simp [hE]
  · have hE : drawnE n s m d = askedE n s m := by unfold drawnE; rw [if_pos h0]
    have hs : True := trivial
    repeat' first | (with_reducible first | refine q01 ?_ | refine q02 ?_ | refine q11 ?_ | refine q17 ?_) | (with_reducible refine At.fn_ret (by simp -dsimp [h0, hs]; exact rfl) ?_) | (refine CallE.pure (c1) ?_; try simp -dsimp [h0, hs]) | (with_reducible refine DT_regionE [0, 1, 2, 3, 4, 8, 9, 10, 11, 17, 22, 31] ?_; simp -dsimp [h0, hs]) | (refine DT_cond rfl (fun h => ?_) (fun h => ?_) <;> (try simp only [nrm] at h) <;> (try exact Bool.noConfusion h))
    all_goals try simp -dsimp [h0, hs]
    all_goals try clear hs
    all_goals simp [hE, h0]
end Go.Proofs
namespace Go.Proofs
open Go Go.Ab
theorem byF_at (n : Notes) (s w : List Int) (m d : Int) : byF n s w m d n.notes.length = if byK n.notes (frcL s w m n.notes) d n.notes.length < 0 then note1 else (n.notes[(byK n.notes (frcL s w m n.notes) d n.notes.length).toNat]?).getD note1 := by
  unfold byF
  rw [byN_K _ _ _ _ (Nat.le_refl _)]
  split
  · rfl
  · split <;> simp [*]
theorem byK_get {l : List Note} {b : List Bool} {d : Int} {k : Nat} (hk : k ≤ l.length) (h : ¬ byK l b d k < 0) : (byK l b d k).toNat < l.length := by
  have := (byK_lt l b d k).2; omega
theorem letters_eq (n : Notes) (s : List Int) (m : Int) : lettersP n s m = lettersK n s m := by
  refine List.map_congr_left fun d _ => ?_
  rw [byF_at]
  unfold letterK
  rw [frcL_len]
  split
  · rfl
  · rename_i h
    have hl := byK_get (Nat.le_refl _) h
    rw [List.getElem?_eq_getElem hl]; rfl
theorem by_eq (n : Notes) (s : List Int) (m d : Int) : (byF n s [] m d n.notes.length).number = byKn n s m d := by
  rw [byF_at]
  unfold byKn
  split
  · rfl
  · rename_i h
    have hl := byK_get (Nat.le_refl _) h
    rw [List.getElem?_eq_getElem hl]; rfl
end Go.Proofs
namespace Go.Proofs
open Go Go.Ab
set_option linter.unusedSimpArgs false
variable {G : Nat → Option (List IC)}
theorem DT_freeze {P : Program} {nt : Nat} {tmps : List (Nat × DV)} {a : List DC} {es : List (List DC)} {g : Nat} {rest : List DObj} {c : Code} {Q : Exit → DS → Prop} (h : DT P G ⟨0, none⟩ c (DS.drop ⟨nt, tmps, DObj.row a :: DObj.vec 1 es g false :: rest⟩ 0) Q) : DT P G ⟨0, none⟩ c ⟨nt, tmps, DObj.row a :: DObj.vec 1 es g false :: rest⟩ Q :=
  DT_weak (Weak.drop (Nat.zero_le _) (Nat.zero_le _)) h
def NKind (n : Notes) : Prop := (∀ x ∈ n.reg, 0 ≤ x.kind ∧ x.kind ≤ 255) ∧ ∀ x ∈ n.notes, 0 ≤ x.ways ∧ x.ways ≤ 255 ∧ 0 ≤ x.signed ∧ x.signed ≤ 255
theorem NSm_of {n : Notes} (hk : NKind n) (h : smallNB n = true) : SmallN n ∧ NSm n := by
  simp only [smallNB, Bool.and_eq_true, decide_eq_true_eq] at h
  refine ⟨h, ⟨h.1.1, fun x hx => ⟨(hk.1 x hx).1, (hk.1 x hx).2, h.1.2 x hx⟩⟩, h.2, hk.2⟩
set_option maxHeartbeats 2000000 in
theorem noteForce_c (n : Notes) (s : List Int) (d m : Int) (hG : sheetG G) (hN : noteG G) (hS : SortOk G) (hk : NKind n) (objs : List DObj) : DCall Tryd.prog G 4 [notesv n, isv s, iv d, iv m] objs (fun rr objs' => rr = bv true ∧ objs' = objs) := by
  refine DCall.frame ?_ (by simp) (by simp) objs
  refine DCall_intro Tryd.func4 rfl Tryd.ntmps4 (by simp) rfl ?_
  try simp only [notesv, isv, iv, iv]
  have c1 := great3_c (G := G) n
  cases hq : smallNB n
  · rw [hq] at c1
    have hs : True := trivial
    repeat' first | (with_reducible first | refine q01 ?_ | refine q02 ?_ | refine q11 ?_ | refine q17 ?_) | (with_reducible refine At.fn_ret (by simp -dsimp [hs]; exact rfl) ?_) | (refine CallE.pure (c1) ?_; try simp -dsimp [hs]) | (with_reducible refine DT_regionE [0, 1, 2, 3, 4, 8, 9, 10, 11, 12, 13, 14, 15, 16, 17, 18, 19, 20, 21, 22, 29] ?_; simp -dsimp [hs]) | (refine DT_cond rfl (fun h => ?_) (fun h => ?_) <;> (try simp only [nrm] at h) <;> (try exact Bool.noConfusion h))
    all_goals try simp -dsimp [hs]
    all_goals try clear hs
  · obtain ⟨hsn, hs⟩ := NSm_of hk hq
    rw [hq] at c1
    by_cases hl : 20 < s.length
    · have hli : (20 : Int) < s.length := by omega
      have hs : True := trivial
      repeat' first | (with_reducible first | refine q01 ?_ | refine q02 ?_ | refine q11 ?_ | refine q17 ?_) | (with_reducible refine At.fn_ret (by simp -dsimp [hli, hs]; exact rfl) ?_) | (refine CallE.pure (c1) ?_; try simp -dsimp [hli, hs]) | (with_reducible refine DT_regionE [0, 1, 2, 3, 4, 8, 9, 10, 11, 12, 13, 14, 15, 16, 17, 18, 19, 20, 21, 22, 29] ?_; simp -dsimp [hli, hs]) | (refine DT_cond rfl (fun h => ?_) (fun h => ?_) <;> (try simp only [nrm] at h) <;> (try exact Bool.noConfusion h))
      all_goals try simp -dsimp [hli, hs]
      all_goals try clear hs
    · have hli : ¬ (20 : Int) < s.length := by omega
      have hsl : s.length < 1000 := by omega
      have c2 := twin3_c (G := G) n hsn
      have c3 := nForce_c n s m hG hN hS hs hsl
      have c4 := rForce_c (G := G) n s m hs hsl
      have c5 := nLetters_c n s m hG hN hS hs hsl
      rw [letters_eq] at c5
      have c6 := rLetters_c (G := G) n s m hs hsl
      have c7 := nBy_c n s d m hG hN hS hs hsl
      rw [by_eq] at c7
      have c8 := rBy_c (G := G) n s d m hs hsl
      have c9 := nCheck_c n hG hN hS hs
      have c10 := check3_c (G := G) n hs
      have c11 := same3_c (G := G) n hsn
      have hn16 := hs.2.1
      have hr80 := hs.1.1
      have hnl := numsTo_length n.reg n.reg.length
      have hX : (if askedE n s m = 0 then inT n.notes (frcL s [] m n.notes) n.notes.length else []).length < 1000000 := by
        split
        · have := inT_len n.notes (frcL s [] m n.notes) n.notes.length; omega
        · simp
      have hY : (if askedE n s m = 0 then lettersK n s m else []).length < 1000000 := by
        split
        · rw [lettersK, List.length_map, nums]; omega
        · simp
      have c12 := fun (l : List Int) (h : l.length < 1000000) => sameInts_c (G := G) l l h
      have c13 := c12 _ hX
      have c14 := c12 _ hY
      have c15 := c12 s (by omega)
      clear c12
      simp only [decide_true] at c13 c14 c15
      generalize (if askedE n s m = 0 then inT n.notes (frcL s [] m n.notes) n.notes.length else []) = X at *
      generalize (if askedE n s m = 0 then lettersK n s m else []) = Y at *
      generalize (if drawnE n s m d = 0 then byKn n s m d else 0) = Z at *
      have hs : True := trivial
      repeat' first | (with_reducible first | refine q01 ?_ | refine q11 ?_ | refine q14 ?_ | refine q17 ?_ | refine And.intro (by omega) ?_) | (with_reducible refine At.fn_ret (by simp -dsimp [hli, hs]; exact rfl) ?_) | (refine CallE.pure (c1) ?_; try simp -dsimp [hli, hs]) | (refine CallE.pure (c2) ?_; try simp -dsimp [hli, hs]) | (refine CallE.pure (c3) ?_; try simp -dsimp [hli, hs]) | (refine CallE.pure (c4) ?_; try simp -dsimp [hli, hs]) | (refine CallE.pure (c5) ?_; try simp -dsimp [hli, hs]) | (refine CallE.pure (c6) ?_; try simp -dsimp [hli, hs]) | (refine CallE.pure (c7) ?_; try simp -dsimp [hli, hs]) | (refine CallE.pure (c8) ?_; try simp -dsimp [hli, hs]) | (refine QCall_pure (c9) ?_; try simp -dsimp [hli, hs]) | (refine QCall_pure (c10) ?_; try simp -dsimp [hli, hs]) | (refine QCall_pure (c11) ?_; try simp -dsimp [hli, hs]) | (refine QCall_pure (c13) ?_; try simp -dsimp [hli, hs]) | (refine QCall_pure (c14) ?_; try simp -dsimp [hli, hs]) | (refine QCall_pure (c15) ?_; try simp -dsimp [hli, hs]) | (refine DT_freeze ?_; try simp -dsimp [hli, hs]) | (refine DT_regionM (id := 10) (nt := 124) 46 [0, 1, 2, 3, 4, 8, 9, 10, 11, 12, 13, 14, 15, 16, 17, 18, 19, 20, 21, 22, 29] mixed rfl (by kernel_rfl) ?_; simp -dsimp [hli, hs]) | (with_reducible refine DT_regionE [0, 1, 2, 3, 4, 8, 9, 10, 11, 12, 13, 14, 15, 16, 17, 18, 19, 20, 21, 22, 29] ?_; simp -dsimp [hli, hs]) | (refine DT_cond rfl (fun h => ?_) (fun h => ?_) <;> (try simp only [nrm] at h) <;> (try exact Bool.noConfusion h))
      all_goals try simp -dsimp [hli, hs]
      all_goals try clear hs
end Go.Proofs
namespace Go.Proofs
open Go Go.Ab
theorem len10 {α : Type} {l : List α} (h : l.length = 10) : ∃ a b c d e f g i j k, l = [a, b, c, d, e, f, g, i, j, k] := by
  match l, h with
  | [a, b, c, d, e, f, g, i, j, k], _ => exact ⟨a, b, c, d, e, f, g, i, j, k, rfl⟩
def noteIn (x : Note) : Prop := 0 ≤ x.ways ∧ x.ways ≤ 255 ∧ 0 ≤ x.signed ∧ x.signed ≤ 255
def noteP : Nat → List IC → Prop
  | 2 => fun l => ∃ n : Int, (0 ≤ n ∧ n ≤ 255) ∧ l = [.raw (.int .u8 n)]
  | 8 => fun l => ∃ b : Bool, l = [rB b]
  | 9 => fun l => ∃ n : Int, (0 ≤ n ∧ n ≤ 255) ∧ l = [.raw (.int .u8 n)]
  | _ => fun l => ∃ n : Int, l = [rI n]
theorem rdNote : Rd 110 encNote noteIn := (Opens.struct Tryd.underlying110 (by kernel_rfl) noteP (fun i f hf => by
    rcases i with _ | _ | _ | _ | _ | _ | _ | _ | _ | _ | i <;> simp at hf <;> subst hf
    · exact oInt
    · exact oInt
    · exact oU8
    · exact oInt
    · exact oInt
    · exact oInt
    · exact oInt
    · exact oInt
    · exact oBool
    · exact oU8)).mono (by
  rintro l ⟨ls, h1, h2, rfl⟩
  obtain ⟨a, b, c, d, e, f, g, i, j, k, rfl⟩ := len10 h1
  obtain ⟨x0, rfl⟩ := h2 0 a rfl
  obtain ⟨x1, rfl⟩ := h2 1 b rfl
  obtain ⟨x2, k2, rfl⟩ := h2 2 c rfl
  obtain ⟨x3, rfl⟩ := h2 3 d rfl
  obtain ⟨x4, rfl⟩ := h2 4 e rfl
  obtain ⟨x5, rfl⟩ := h2 5 f rfl
  obtain ⟨x6, rfl⟩ := h2 6 g rfl
  obtain ⟨x7, rfl⟩ := h2 7 i rfl
  obtain ⟨x8, rfl⟩ := h2 8 j rfl
  obtain ⟨x9, k9, rfl⟩ := h2 9 k rfl
  exact ⟨⟨x0, x1, x2, x3, x4, x5, x6, x7, x8, x9⟩, ⟨k9.1, k9.2, k2.1, k2.2⟩, rfl⟩)
theorem oNoteL : Opens Tryd.prog 46 (fun l => ∃ xs : List Note, (∀ x ∈ xs, noteIn x) ∧ l = [.sl (xs.map encNote)]) :=
  Opens.sliceOf Tryd.underlying46 (sz := 10) (by kernel_rfl) (by decide) (fun _ => rfl) rdNote
def notesP : Nat → List IC → Prop
  | 0 => fun l => ∃ xs : List Issue, (∀ x ∈ xs, kindIn x) ∧ l = [.sl (xs.map encIssue)]
  | _ => fun l => ∃ xs : List Note, (∀ x ∈ xs, noteIn x) ∧ l = [.sl (xs.map encNote)]
theorem rdNotes : Rd 48 encNotes NKind := (Opens.struct Tryd.underlying48 (by kernel_rfl) notesP (fun i f hf => by
    rcases i with _ | _ | i <;> simp at hf <;> subst hf
    · exact oReg
    · exact oNoteL)).mono (by
  rintro l ⟨ls, h1, h2, rfl⟩
  obtain ⟨a, b, rfl⟩ := len2 h1
  obtain ⟨x, hx, rfl⟩ := h2 0 a rfl
  obtain ⟨y, hy, rfl⟩ := h2 1 b rfl
  exact ⟨⟨x, y⟩, ⟨hx, hy⟩, rfl⟩)
theorem gNote : Tryd.prog.globalNamed "blueline/note.checks" = some 1 := by kernel_rfl
theorem tNote : (Tryd.prog.globals[1]?).map (·.type) = some 179 := by kernel_rfl
end Go.Proofs
namespace Go.Ab
open Go
/-- Neighbours that are alike are one. -/
def dedupI : List Int → List Int
  | [] => []
  | [a] => [a]
  | a :: b :: r => if a = b then dedupI (b :: r) else a :: dedupI (b :: r)
theorem dedupI_snoc : ∀ (l : List Int) (u v : Int), dedupI (l ++ [u, v]) = if u = v then dedupI (l ++ [u]) else dedupI (l ++ [u]) ++ [v]
  | [], u, v => by simp only [List.nil_append, dedupI]; split <;> simp [*]
  | [a], u, v => by
    simp only [List.cons_append, List.nil_append, dedupI]
    split <;> split <;> simp [*]
  | a :: b :: r, u, v => by
    have ih := dedupI_snoc (b :: r) u v
    simp only [List.cons_append, dedupI] at ih ⊢
    rw [ih]
    split <;> split <;> simp
theorem dedupI_len : ∀ l : List Int, (dedupI l).length ≤ l.length
  | [] => by simp [dedupI]
  | [a] => by simp [dedupI]
  | a :: b :: r => by
    have := dedupI_len (b :: r)
    simp only [dedupI]; split <;> simp at * <;> omega
theorem dedupI_mem : ∀ (l : List Int) (x : Int), x ∈ dedupI l ↔ x ∈ l
  | [], x => by simp [dedupI]
  | [a], x => by simp [dedupI]
  | a :: b :: r, x => by
    have ih := dedupI_mem (b :: r) x
    simp only [dedupI]
    split
    · rename_i h; subst h; rw [ih]; simp
    · rw [List.mem_cons, ih, List.mem_cons (a := x) (b := a)]
theorem dedupI_lt : ∀ (l : List Int), l.Pairwise (· ≤ ·) → (dedupI l).Pairwise (· < ·)
  | [], _ => by simp [dedupI]
  | [a], _ => by simp [dedupI]
  | a :: b :: r, h => by
    obtain ⟨h1, h2⟩ := List.pairwise_cons.1 h
    have ih := dedupI_lt (b :: r) h2
    simp only [dedupI]
    split
    · exact ih
    · rename_i hne
      refine List.pairwise_cons.2 ⟨fun x hx => ?_, ih⟩
      have hb := h1 b (by simp)
      rcases List.mem_cons.1 ((dedupI_mem _ _).1 hx) with rfl | hx
      · omega
      · have := (List.pairwise_cons.1 h2).1 x hx; omega
/-- Without like neighbours nothing goes. -/
theorem dedupI_id : ∀ (l : List Int), (∀ (i : Nat) (a b : Int), l[i]? = some a → l[i + 1]? = some b → a ≠ b) → dedupI l = l
  | [], _ => rfl
  | [a], _ => rfl
  | a :: b :: r, h => by
    have ih := dedupI_id (b :: r) (fun i x y hx hy => h (i + 1) x y (by simpa using hx) (by simpa using hy))
    rw [dedupI, if_neg (h 0 a b rfl rfl), ih]
theorem take_two {l : List Int} {k : Nat} (h : k + 1 < l.length) : l.take (k + 2) = l.take k ++ [l[k], l[k + 1]] := by
  rw [show k + 2 = k + 1 + 1 from rfl, List.take_succ_eq_append_getElem h, List.take_succ_eq_append_getElem (by omega), List.append_assoc]; rfl
theorem dedup_step {l : List Int} {k : Nat} (h : k + 1 < l.length) : dedupI (l.take (k + 2)) = if l[k] = l[k + 1] then dedupI (l.take (k + 1)) else dedupI (l.take (k + 1)) ++ [l[k + 1]] := by
  rw [take_two h, dedupI_snoc, List.take_succ_eq_append_getElem (by omega)]
theorem set_take {l : List Int} {k : Nat} {v : Int} (h : k < l.length) : (l.set k v).take (k + 1) = l.take k ++ [v] := by
  rw [List.take_succ_eq_append_getElem (by simpa using h)]
  simp [List.take_set_of_le]
end Go.Ab
namespace Go.Ab
open Go
structure Str where
  frm : Int
  to : Int
  letter : Int
  deriving DecidableEq
def encStr (x : Str) : List IC := [rI x.frm, rI x.to, rI x.letter]
def strv (l : List Str) : DV := .one (.im (.sl (l.map encStr)))
attribute [simp] encStr strv
/-- A machine more, as the program has it: all go on to the last machine. -/
def stepP (L : List Str) (m c : Int) : List Str := match L.getLast? with
  | none => [⟨m, 999, c⟩]
  | some y => if (⟨y.frm, 999, c⟩ : Str) = y then L else L.dropLast ++ [⟨y.frm, m - 1, y.letter⟩] ++ [⟨m, 999, c⟩]
/-- A machine more, as the reference has it. -/
def stepR (L : List Str) (m c : Int) : List Str := match L.getLast? with
  | none => [⟨m, m, c⟩]
  | some y => if y.letter = c then L.dropLast ++ [⟨y.frm, m, y.letter⟩] else L ++ [⟨m, m, c⟩]
def strP (f : Int → Int) (M : List Int) : List Str := M.foldl (fun L m => stepP L m (f m)) []
def strR (f : Int → Int) : Nat → List Str
  | 0 => []
  | k + 1 => stepR (strR f k) ((k : Int) + 1) (f ((k : Int) + 1))
def capS (m : Int) (L : List Str) : List Str := match L.getLast? with
  | none => []
  | some y => L.dropLast ++ [⟨y.frm, m, y.letter⟩]
theorem upto_succ : ∀ (M : List Int) (k : Int), M.Pairwise (· < ·) → M.filter (fun m => decide (m ≤ k + 1)) = M.filter (fun m => decide (m ≤ k)) ++ (if k + 1 ∈ M then [k + 1] else [])
  | [], k, _ => by simp
  | a :: r, k, h => by
    obtain ⟨h1, h2⟩ := List.pairwise_cons.1 h
    have ih := upto_succ r k h2
    simp only [List.filter_cons, ih]
    by_cases ha : a ≤ k
    · have : a ≤ k + 1 := by omega
      have hne : ¬ k + 1 = a := by omega
      simp [ha, this, hne]
    · have hr : r.filter (fun m => decide (m ≤ k)) = [] := List.filter_eq_nil_iff.2 fun x hx => by have := h1 x hx; simp; omega
      by_cases ha1 : a = k + 1
      · have hnr : ¬ k + 1 ∈ r := fun hm => by have := h1 _ hm; omega
        subst ha1
        simp [hr, hnr]; omega
      · have hnr : ¬ k + 1 ∈ r := fun hm => by have := h1 _ hm; omega
        have : ¬ a ≤ k + 1 := by omega
        have hne : ¬ k + 1 = a := fun e => ha1 e.symm
        simp [ha, this, hr, hnr, hne]
theorem last_snoc (L : List Str) (y : Str) : (L ++ [y]).getLast? = some y := by simp
theorem of_last {L : List Str} {y : Str} (h : L.getLast? = some y) : L = L.dropLast ++ [y] := by
  have hne : L ≠ [] := by rintro rfl; simp at h
  have := (List.dropLast_concat_getLast hne).symm
  rw [List.getLast?_eq_some_getLast hne] at h
  rw [Option.some.inj h] at this; exact this
/-- Both have the same stretches: the letters turn at marks alone. -/
theorem str_eq (f : Int → Int) (M : List Int) (hM : M.Pairwise (· < ·)) (h1 : 1 ∈ M) (hlo : ∀ m ∈ M, 1 ≤ m) (hf : ∀ k : Nat, 1 ≤ k → k < 999 → ¬ ((k : Int) + 1) ∈ M → f ((k : Int) + 1) = f k) :
    ∀ k : Nat, 1 ≤ k → k ≤ 999 → ∃ y, (strP f (M.filter fun m => decide (m ≤ (k : Int)))).getLast? = some y ∧ y.to = 999 ∧ y.letter = f k ∧ strR f k = capS k (strP f (M.filter fun m => decide (m ≤ (k : Int))))
  | 0, h, _ => by omega
  | 1, _, _ => by
    have h0 : M.filter (fun m => decide (m ≤ (0 : Int))) = [] := List.filter_eq_nil_iff.2 fun x hx => by have := hlo x hx; simp; omega
    have e : M.filter (fun m => decide (m ≤ ((1 : Nat) : Int))) = [1] := by
      have := upto_succ M 0 hM
      rw [h0, Int.zero_add, if_pos h1] at this
      exact this
    rw [e]
    exact ⟨⟨1, 999, f 1⟩, rfl, rfl, rfl, rfl⟩
  | k + 2, _, hk9 => by
    obtain ⟨y, hy, hto, hlet, hR⟩ := str_eq f M hM h1 hlo hf (k + 1) (by omega) (by omega)
    have hu := upto_succ M ((k + 1 : Nat) : Int) hM
    have hc : ((k + 1 : Nat) : Int) + 1 = ((k + 2 : Nat) : Int) := by omega
    have hstep : strR f (k + 2) = stepR (strR f (k + 1)) (((k + 1 : Nat) : Int) + 1) (f (((k + 1 : Nat) : Int) + 1)) := rfl
    rw [hc] at hu hstep
    have hL := of_last hy
    generalize hP : strP f (M.filter fun m => decide (m ≤ ((k + 1 : Nat) : Int))) = P at *
    have hcap : strR f (k + 1) = P.dropLast ++ [⟨y.frm, ((k + 1 : Nat) : Int), y.letter⟩] := by rw [hR, capS, hy]
    by_cases hm : ((k + 2 : Nat) : Int) ∈ M
    · rw [if_pos hm] at hu
      have hPP : strP f (M.filter fun m => decide (m ≤ ((k + 2 : Nat) : Int))) = stepP P ((k + 2 : Nat) : Int) (f ((k + 2 : Nat) : Int)) := by
        rw [hu, strP, List.foldl_append, ← hP]; rfl
      rw [hPP, hstep, hcap]
      by_cases he : y.letter = f ((k + 2 : Nat) : Int)
      · have hs : stepP P ((k + 2 : Nat) : Int) (f ((k + 2 : Nat) : Int)) = P := by
          rw [stepP, hy]; simp only
          rw [if_pos]
          rw [← he, ← hto]
        rw [hs]
        refine ⟨y, hy, hto, he, ?_⟩
        rw [stepR, last_snoc]; simp only
        rw [if_pos he, List.dropLast_concat, capS, hy]
      · have hs : stepP P ((k + 2 : Nat) : Int) (f ((k + 2 : Nat) : Int)) = P.dropLast ++ [⟨y.frm, ((k + 2 : Nat) : Int) - 1, y.letter⟩] ++ [⟨((k + 2 : Nat) : Int), 999, f ((k + 2 : Nat) : Int)⟩] := by
          rw [stepP, hy]; simp only
          rw [if_neg]
          intro e; rw [← e] at he; exact he rfl
        rw [hs]
        refine ⟨_, last_snoc _ _, rfl, rfl, ?_⟩
        rw [stepR, last_snoc]; simp only
        rw [if_neg he, capS, last_snoc]; simp only
        rw [List.dropLast_concat, show ((k + 2 : Nat) : Int) - 1 = ((k + 1 : Nat) : Int) by omega]
    · rw [if_neg hm, List.append_nil] at hu
      rw [hu, hP, hstep, hcap]
      have hfe : f ((k + 2 : Nat) : Int) = f ((k + 1 : Nat) : Int) := by
        have := hf (k + 1) (by omega) (by omega) (by rw [hc]; exact hm)
        rw [hc] at this; exact this
      refine ⟨y, hy, hto, by rw [hfe]; exact hlet, ?_⟩
      rw [stepR, last_snoc]; simp only
      rw [if_pos (by rw [hfe]; exact hlet), List.dropLast_concat, capS, hy]
theorem str_all {f : Int → Int} {M : List Int} (hM : M.Pairwise (· < ·)) (h1 : 1 ∈ M) (hlo : ∀ m ∈ M, 1 ≤ m) (hhi : ∀ m ∈ M, m ≤ 999) (hf : ∀ k : Nat, 1 ≤ k → k < 999 → ¬ ((k : Int) + 1) ∈ M → f ((k : Int) + 1) = f k) (k : Nat) (hk : (k : Int) = 999) : strP f M = strR f k := by
  obtain ⟨y, hy, hto, _, hR⟩ := str_eq f M hM h1 hlo hf k (by omega) (by omega)
  have e : M.filter (fun m => decide (m ≤ (k : Int))) = M := List.filter_eq_self.2 fun x hx => by rw [hk]; simpa using hhi x hx
  rw [e] at hy hR
  rw [hR, capS, hy]; simp only
  have hL := of_last hy
  rw [hk, ← hto]
  exact hL
end Go.Ab
namespace Go.Proofs
open Go Go.Ab
def rawM (l : List Note) : List Int := 1 :: l.flatMap fun x => [x.frm, x.to + 1]
def marksP (l : List Note) : List Int := (dedupI (isort (rawM l))).filter fun m => decide (m ≤ 999)
theorem marks_mem {l : List Note} {m : Int} : m ∈ marksP l ↔ (m = 1 ∨ ∃ x ∈ l, m = x.frm ∨ m = x.to + 1) ∧ m ≤ 999 := by
  simp only [marksP, List.mem_filter, dedupI_mem, isort_mem, rawM, List.mem_cons, List.mem_flatMap, List.not_mem_nil, or_false, decide_eq_true_eq]
theorem marks_lt (l : List Note) : (marksP l).Pairwise (· < ·) := (dedupI_lt _ (isort_sorted _)).filter _
theorem marks_len (l : List Note) : (marksP l).length ≤ 2 * l.length + 1 := by
  have h1 := List.length_filter_le (fun m : Int => decide (m ≤ 999)) (dedupI (isort (rawM l)))
  have h2 := dedupI_len (isort (rawM l))
  have h3 : (rawM l).length = 2 * l.length + 1 := by
    unfold rawM
    have : ∀ l : List Note, (l.flatMap fun x => [x.frm, x.to + 1]).length = 2 * l.length := fun l => by
      induction l with
      | nil => rfl
      | cons a r ih => rw [List.flatMap_cons, List.length_append, ih, List.length_cons, List.length_cons, List.length_cons, List.length_nil]; omega
    rw [List.length_cons, this]
  rw [isort_len, h3] at h2
  unfold marksP; omega
theorem nk3_of {n : Notes} (hok : allOk n) {x : Note} (hx : x ∈ n.notes) : 1 ≤ x.frm ∧ x.frm ≤ x.to ∧ x.to ≤ 999 := by
  obtain ⟨i, hi, e⟩ := List.mem_iff_getElem.1 hx
  have h := hok i x (by rw [List.getElem?_eq_getElem hi, e])
  simp only [nkA, nk3, Bool.and_eq_true, decide_eq_true_eq] at h
  omega
theorem frcL_same {s w : List Int} {m m' : Int} : ∀ (l : List Note), (∀ x ∈ l, frcB s w m x = frcB s w m' x) → frcL s w m l = frcL s w m' l
  | [], _ => rfl
  | x :: r, h => by
    have ih := frcL_same r fun y hy => h y (by simp [hy])
    simp only [frcL, ih, h x (by simp)]
def letF (n : Notes) (s : List Int) (d m : Int) : Int := letterK n.notes (frcL s [] m n.notes) d
theorem letF_same {n : Notes} {s : List Int} {d : Int} (k : Nat) (h9 : k < 999) (hk : ¬ ((k : Int) + 1) ∈ marksP n.notes) : letF n s d ((k : Int) + 1) = letF n s d k := by
  unfold letF
  rw [frcL_same (m := (k : Int) + 1) (m' := k) n.notes]
  intro x hx
  have h1 : (k : Int) + 1 ≠ x.frm := fun e => hk (marks_mem.2 ⟨.inr ⟨x, hx, .inl e⟩, by omega⟩)
  have h2 : (k : Int) + 1 ≠ x.to + 1 := fun e => hk (marks_mem.2 ⟨.inr ⟨x, hx, .inr e⟩, by omega⟩)
  unfold frcB
  have e1 : decide (x.frm ≤ (k : Int) + 1) = decide (x.frm ≤ (k : Int)) := by rw [decide_eq_decide]; omega
  have e2 : decide ((k : Int) + 1 ≤ x.to) = decide ((k : Int) ≤ x.to) := by rw [decide_eq_decide]; omega
  rw [e1, e2]
theorem runs_eq {n : Notes} (hok : allOk n) (s : List Int) (d : Int) (k : Nat) (hk : (k : Int) = 999) : strP (letF n s d) (marksP n.notes) = strR (letF n s d) k :=
  str_all (marks_lt _) (marks_mem.2 ⟨.inl rfl, by omega⟩) (fun m hm => by
    rcases (marks_mem.1 hm).1 with rfl | ⟨x, hx, rfl | rfl⟩
    · omega
    · exact (nk3_of hok hx).1
    · have := nk3_of hok hx; omega) (fun m hm => (marks_mem.1 hm).2) (fun k _ h9 h => letF_same k h9 h) k hk
theorem byF_let (n : Notes) (s : List Int) (m d : Int) : (byF n s [] m d n.notes.length).letter = letF n s d m := by
  rw [byF_at]
  unfold letF letterK
  rw [frcL_len]
  split
  · rfl
  · rename_i h
    have hl := byK_get (Nat.le_refl _) h
    rw [List.getElem?_eq_getElem hl]; rfl
end Go.Proofs
namespace Go.Ab
open Go
/-! ### Sets of pairs -/
def kP (p : Int × Int) : List Value := [.int .i64 p.1, .int .i64 p.2]
def encPS (l : List (Int × Int)) : List (List Value × List DC) := l.map fun p => (kP p, [.im (rB true)])
def pput (p : Int × Int) (l : List (Int × Int)) : List (Int × Int) := if p ∈ l then l else l ++ [p]
theorem mem_pput (p q : Int × Int) (l : List (Int × Int)) : q ∈ pput p l ↔ q ∈ l ∨ q = p := by
  unfold pput
  split
  · exact ⟨.inl, fun h => h.elim id fun e => e ▸ ‹_›⟩
  · simp
theorem beqs_p (a b : Int) (p : Int × Int) : beqs [.int .i64 a, .int .i64 b] (kP p) = decide (p = (a, b)) := by
  obtain ⟨c, d⟩ := p
  simp only [kP, beqs, Bool.and_true]
  rw [Bool.eq_iff_iff]
  simp only [Bool.and_eq_true, beq_iff_eq, decide_eq_true_eq, Prod.mk.injEq]
  exact ⟨fun h => ⟨h.1.symm, h.2.symm⟩, fun h => ⟨h.1.symm, h.2.symm⟩⟩
@[simp] theorem mget_P (l : List (Int × Int)) (a b : Int) : mget [.int .i64 a, .int .i64 b] (encPS l) [.im (.raw (.bool false))] = [.im (.raw (.bool (decide ((a, b) ∈ l))))] := by
  induction l with
  | nil => rfl
  | cons p r ih =>
    have e : encPS (p :: r) = (kP p, [.im (rB true)]) :: encPS r := rfl
    rw [e]
    simp only [mget, mfind, beqs_p, decide_eq_true_eq] at ih ⊢
    split
    · rename_i h; subst h; simp
    · rename_i h
      rw [ih]
      have : ((a, b) ∈ p :: r) = ((a, b) ∈ r) := propext ⟨fun h' => (List.mem_cons.1 h').resolve_left fun e => h e.symm, List.mem_cons_of_mem _⟩
      simp only [this]
@[simp] theorem mset_P (l : List (Int × Int)) (a b : Int) : mset [.int .i64 a, .int .i64 b] [.im (.raw (.bool true))] (encPS l) = encPS (pput (a, b) l) := by
  have gen : ∀ l : List (Int × Int), ((a, b) ∈ l → mset [.int .i64 a, .int .i64 b] [.im (.raw (.bool true))] (encPS l) = encPS l) ∧ ((a, b) ∉ l → mset [.int .i64 a, .int .i64 b] [.im (.raw (.bool true))] (encPS l) = encPS (l ++ [(a, b)])) := by
    intro l
    induction l with
    | nil => exact ⟨fun h => by simp at h, fun _ => rfl⟩
    | cons p r ih =>
      have e : encPS (p :: r) = (kP p, [.im (rB true)]) :: encPS r := rfl
      rw [e]
      simp only [mset, beqs_p, decide_eq_true_eq]
      constructor
      · intro h
        split
        · rename_i hp; rw [hp]; rfl
        · rename_i hp
          rw [ih.1 ((List.mem_cons.1 h).resolve_left fun e => hp e.symm)]
      · intro h
        rw [if_neg fun e => h (by simp [e]), ih.2 fun e => h (by simp [e])]; rfl
  unfold pput
  split
  · exact (gen l).1 ‹_›
  · exact (gen l).2 ‹_›
@[simp] theorem encPS_len (l : List (Int × Int)) : (encPS l).length = l.length := by simp [encPS]
@[simp] theorem map_fz_P (n : Nat) (objs : List DObj) (l : List (Int × Int)) : ((encPS l).map fun x => (x.1, x.2.map (fz n objs))) = encPS l := by
  simp [encPS, fz, DC.lt]
@[simp] theorem map_rn_P (e : Nat → Nat) (m : List (Int × Int)) : ((encPS m).map fun x => (x.1, rnL e x.2)) = encPS m := by
  simp [encPS, rnL, rnC]
/-! ### Lists of pairs -/
def encPr (p : Int × Int) : List IC := [rI p.1, rI p.2]
def prv (l : List (Int × Int)) : DV := .one (.im (.sl (l.map encPr)))
attribute [simp] encPr prv
end Go.Ab
