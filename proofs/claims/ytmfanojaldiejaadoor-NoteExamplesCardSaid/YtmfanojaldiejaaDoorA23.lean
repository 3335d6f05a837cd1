/- Part 23 of the proofs: laws and walks that hold without conditions beyond those that each theorem names. -/
import Derived.Test.YtmfanojaldiejaaDoorA19
import Derived.Test.YtmfanojaldiejaaDoorA20
import Derived.Test.YtmfanojaldiejaaDoorA22
set_option linter.all false
set_option linter.deprecated false
namespace Go.Ab
open Go
@[simp] theorem ims_getS (L : List Str) (k : Nat) : (ims (L.map encStr))[k]? = (L[k]?).map fun y => [DC.im (.raw (.int .i64 y.frm)), DC.im (.raw (.int .i64 y.to)), DC.im (.raw (.int .i64 y.letter))] := by
  simp only [ims, List.getElem?_map, Option.map_map]; rfl
@[simp] theorem ims_getSl (L : List Str) (k : Nat) (h : k < (ims (L.map encStr)).length) : (ims (L.map encStr))[k] = [DC.im (.raw (.int .i64 (L[k]'(by simpa [ims_length] using h)).frm)), DC.im (.raw (.int .i64 (L[k]'(by simpa [ims_length] using h)).to)), DC.im (.raw (.int .i64 (L[k]'(by simpa [ims_length] using h)).letter))] := by
  simp [ims]
@[simp] theorem ims_setS (L : List Str) (k : Nat) (a b c : Int) : (ims (L.map encStr)).set k [DC.im (.raw (.int .i64 a)), DC.im (.raw (.int .i64 b)), DC.im (.raw (.int .i64 c))] = ims ((L.set k ⟨a, b, c⟩).map encStr) := by
  simp only [ims, List.map_set, encStr, rI, List.map_cons, List.map_nil]
theorem set_last {L : List Str} {y z : Str} (h : L.getLast? = some y) : L.set (L.length - 1) z = L.dropLast ++ [z] := by
  have e := of_last h
  have hl : L.length - 1 = L.dropLast.length := by simp
  rw [hl]
  conv => lhs; rw [e]
  rw [List.dropLast_concat, List.set_append_right _ _ (Nat.le_refl _), Nat.sub_self]; rfl
theorem last_get {L : List Str} {y : Str} (h : L.getLast? = some y) : 0 < L.length ∧ L[L.length - 1]? = some y := by
  rw [List.getLast?_eq_getElem?] at h
  refine ⟨?_, h⟩
  have := lt_of_getElem? h; omega
end Go.Ab
namespace Go.Proofs
open Go Go.Ab
set_option linter.unusedSimpArgs false
variable {G : Nat → Option (List IC)}
def strT (f : Int → Int) (M : List Int) (k : Nat) : List Str := strP f (M.take k)
theorem strT_succ {f : Int → Int} {M : List Int} {k : Nat} (h : k < M.length) : strT f M (k + 1) = stepP (strT f M k) M[k] (f M[k]) := by
  unfold strT strP
  rw [List.take_succ_eq_append_getElem h, List.foldl_append]; rfl
theorem stepP_len (L : List Str) (m c : Int) : (stepP L m c).length ≤ L.length + 1 := by
  unfold stepP
  split
  · simp
  · rename_i y h
    have hp := (last_get h).1
    split
    · omega
    · simp; omega
theorem strT_len (f : Int → Int) (M : List Int) : ∀ k, (strT f M k).length ≤ k
  | 0 => by simp [strT, strP]
  | k + 1 => by
    have ih := strT_len f M k
    by_cases h : k < M.length
    · rw [strT_succ h]
      have := stepP_len (strT f M k) M[k] (f M[k]); omega
    · have : strT f M (k + 1) = strT f M k := by unfold strT; rw [List.take_of_length_le (by omega), List.take_of_length_le (by omega)]
      rw [this]; omega
set_option maxHeartbeats 4000000 in
theorem nStretches_c (n : Notes) (s : List Int) (d : Int) (hG : sheetG G) (hN : noteG G) (hS : SortOk G) (hs : NSm n) (hsl : s.length < 1000) (objs : List DObj) : DCall Tryd.prog G 14 [notesv n, isv s, iv d] objs (fun rr objs' => rr = .tup [strv (if drawnE n s 1 d = 0 then strP (letF n s d) (marksP n.notes) else []), iv (drawnE n s 1 d)] ∧ objs' = objs) := by
  refine DCall.frame ?_ (by simp) (by simp) objs
  refine DCall_intro Tryd.func14 rfl Tryd.ntmps14 (by simp) rfl ?_
  try simp only [notesv, isv, iv]
  have c1 := drawn_c n s 1 d hG hN hS hs hsl
  by_cases h0 : drawnE n s 1 d = 0
  · rw [h0, show drawnR n s 1 d = .one (.im (fileI n)) by unfold drawnR; rw [if_pos h0]] at c1
    have ha : askedE n s 1 = 0 := Classical.byContradiction fun h => h (by unfold drawnE at h0; rw [if_pos h] at h0; exact h0)
    have hok := (notes_ok (asked_ok ha).1).2.2.1
    have hn16 := hs.2.1
    have c2 := marks_c n hS (by omega) (fun x hx => by have := nk3_of hok hx; omega)
    have c3 := fun m => force_c (G := G) n s [] m
    have hml := marks_len n.notes
    have hmm0 : ∀ m ∈ marksP n.notes, 1 ≤ m ∧ m ≤ 999 := fun m hm => ⟨by
      rcases (marks_mem.1 hm).1 with rfl | ⟨x, hx, rfl | rfl⟩
      · omega
      · exact (nk3_of hok hx).1
      · have := nk3_of hok hx; omega, (marks_mem.1 hm).2⟩
    rw [if_pos h0]
    simp only [fileI] at c1 c2
    simp only [frcObjs, frcCaps, fileI, iv, isv, bv, rI, List.map_cons, List.map_nil, encMB] at c3
    have hs : True := trivial
    repeat' first | (with_reducible first | refine q01 ?_ | refine q11 ?_ | refine q12 ?_ | refine q14 ?_) | (refine CallE.pure (c1) ?_; try simp -dsimp [hs]) | (refine CallE.pure (c2) ?_; try simp -dsimp [hs]) | (with_reducible refine DT_regionE [0,1,2,3,6,7,8,9,10,12,13,14,23,26,27,28,29,46,61] ?_; simp -dsimp [hs]) | (refine DT_cond rfl (fun h => ?_) (fun h => ?_) <;> (try simp only [nrm] at h) <;> (try exact Bool.noConfusion h))
    all_goals try simp -dsimp [hs]
    all_goals try clear hs
    have hE : strP (letF n s d) (marksP n.notes) = strT (letF n s d) (marksP n.notes) (marksP n.notes).length := by unfold strT; rw [List.take_length]
    rw [hE]
    generalize marksP n.notes = M at *
    refine DT_loop (ι := { p : Nat × Nat × Bool // p.1 ≤ M.length }) (fun p => ⟨74, [(1, isv s), (2, iv d), (8, .one (.im (.ip [.sl (n.reg.map encIssue), .sl (n.notes.map encNote), .sl ((nums n.reg).map encI), .sl ((isort (openL n.notes)).map encI)]))), (10, .one (.vec 2 p.1.2.1 0 (strT (letF n s d) M p.1.1).length)), (26, isv M), (27, iv (M.length : Int)), (28, iv (p.1.1 : Int))], [.row ((encNotes n).map .im), .vec 3 [] 0 true, .vec 3 (ims ((strT (letF n s d) M p.1.1).map encStr)) p.1.2.1 p.1.2.2]⟩) (fun p => M.length - p.1.1) ⟨(0, 0, true), by simp⟩ (Weak.of_keep [1,2,8,10,26,27,28] (by simp [strT, strP])) ?_
    rintro ⟨⟨k, g, nl⟩, hk⟩
    simp only at hk
    simp only [iv, isv]
    by_cases hlt : k < M.length
    · have hw : IntKind.i64.wrap ((k : Int) + 1) = ((k + 1 : Nat) : Int) := i64w (by omega) (by omega)
      have hst := strT_succ (f := letF n s d) hlt
      have hLl := strT_len (letF n s d) M k
      have hmk := hmm0 M[k] (List.getElem_mem hlt)
      generalize hx : M[k] = m at *
      have hwm : IntKind.i64.wrap (m - 1) = m - 1 := i64w (by omega) (by omega)
      have c4 := c3 m
      have c5 := by_c (G := G) n s [] m d (by omega) hsl (by simp) [] (ConsM.nil _ _ _ _)
      have hlf := byF_let n s m d
      simp only [frcObjs, frcCaps, fileI, iv, isv, bv, rI, List.map_cons, List.map_nil, encMB, notev, encNote, rB] at c5
      generalize letF n s d m = c at *
      generalize strT (letF n s d) M k = L at *
      cases hlast : L.getLast? with
      | none =>
        obtain rfl : L = [] := List.getLast?_eq_none_iff.1 hlast
        have hw1 : IntKind.i64.wrap (-1) = -1 := i64w (by omega) (by omega)
        simp only [stepP, List.getLast?_nil] at hst
        have hs : True := trivial
        repeat' first | (with_reducible first | refine q01 ?_ | refine q04 ?_ | refine q11 ?_ | refine q12 ?_ | refine q14 ?_) | (refine CallE.embed [] (c4) ?_ ?_ ?_ ?_ ?_ ?_; (focus (simp [emb]; done)); (focus (simp; done)); (focus (simp; done)); (focus (simp; done)); (focus (refine emb_all ?_; simp [emb, embAll]; done)); try simp -dsimp [mergeO, emb, hx, hlt, hw, hlf, hw1, hs]) | (refine CallE.embed_ex [3,4,5,6,7,8,9] (c5) ?_ ?_ ?_ ?_ ?_ ?_; (focus (simp [emb]; done)); (focus (simp; done)); (focus (simp; done)); (focus (simp; done)); (focus (refine emb_all ?_; simp [emb, embAll]; done)); intro mm hmm; try simp -dsimp [mergeO, emb, hx, hlt, hw, hlf, hw1, hs]) | (with_reducible refine DT_regionE [0,1,2,3,6,7,8,9,10,12,13,14,23,26,27,28,29,46,61] ?_; simp -dsimp [hx, hlt, hw, hlf, hw1, hs]) | (refine DT_cond rfl (fun h => ?_) (fun h => ?_) <;> (try simp only [nrm] at h) <;> (try exact Bool.noConfusion h))
        all_goals try simp -dsimp [hx, hlt, hw, hlf, hw1, hs]
        all_goals try clear hs
        exact At.round ⟨(k + 1, g + 1, false), by simp only; omega⟩ (by simp only; omega) (Weak.of_drop [1,2,8,10,26,27,28] 3 (by simp) (by simp) (by simp [hst]))
      | some y =>
        obtain ⟨hp, hlg⟩ := last_get hlast
        simp only [stepP, hlast] at hst
        have hwl : IntKind.i64.wrap ((L.length : Int) - 1) = ((L.length - 1 : Nat) : Int) := by rw [i64w (by omega) (by omega)]; omega
        have hl1 : L.length - 1 < L.length := by omega
        have hLy : L[L.length - 1] = y := (List.getElem?_eq_some_iff.1 hlg).2
        have hsl2 := set_last (z := ⟨y.frm, m - 1, y.letter⟩) hlast
        have hdl : L.dropLast.length = L.length - 1 := by simp
        have htk : List.take L.length (ims ((L.map encStr).set (L.length - 1) (encStr ⟨y.frm, m - 1, y.letter⟩))) = ims (L.map encStr).dropLast ++ [(encStr ⟨y.frm, m - 1, y.letter⟩).map .im] := by
          have := congrArg (List.map encStr) hsl2
          rw [List.map_set, List.map_append, List.map_dropLast] at this
          rw [List.take_of_length_le (by simp [ims_length]), this, ims_append]; rfl
        by_cases he : (⟨y.frm, 999, c⟩ : Str) = y
        · rw [if_pos he] at hst
          have hs : True := trivial
          repeat' first | (with_reducible first | refine q01 ?_ | refine q03 ?_ | refine q04 ?_ | refine q06 ?_ | refine q11 ?_ | refine q12 ?_ | refine q14 ?_ | refine q16 ?_ | refine And.intro (by omega) ?_) | (refine CallE.embed [] (c4) ?_ ?_ ?_ ?_ ?_ ?_; (focus (simp [emb]; done)); (focus (simp; done)); (focus (simp; done)); (focus (simp; done)); (focus (refine emb_all ?_; simp [emb, embAll]; done)); try simp -dsimp [mergeO, emb, hx, hlt, hw, hlf, hwl, hlg, hl1, hLy, hs]) | (refine CallE.embed_ex [3,4,5,6,7,8,9] (c5) ?_ ?_ ?_ ?_ ?_ ?_; (focus (simp [emb]; done)); (focus (simp; done)); (focus (simp; done)); (focus (simp; done)); (focus (refine emb_all ?_; simp [emb, embAll]; done)); intro mm hmm; try simp -dsimp [mergeO, emb, hx, hlt, hw, hlf, hwl, hlg, hl1, hLy, hs]) | (refine DT_regionM (id := 11) (nt := 74) 15 [0,1,2,3,6,7,8,9,10,12,13,14,23,26,27,28,29,46,61] mixed rfl (by kernel_rfl) ?_; simp -dsimp [hx, hlt, hw, hlf, hwl, hlg, hl1, hLy, hs]) | (with_reducible refine DT_regionE [0,1,2,3,6,7,8,9,10,12,13,14,23,26,27,28,29,46,61] ?_; simp -dsimp [hx, hlt, hw, hlf, hwl, hlg, hl1, hLy, hs]) | (refine DT_cond rfl (fun h => ?_) (fun h => ?_) <;> (try simp only [nrm] at h) <;> (try exact Bool.noConfusion h))
          all_goals try simp -dsimp [hx, hlt, hw, hlf, hwl, hlg, hl1, hLy, hs]
          all_goals try clear hs
          · exact At.round ⟨(k + 1, g, nl), by simp only; omega⟩ (by simp only; omega) (Weak.of_drop [1,2,8,10,26,27,28] 3 (by simp) (by simp) (by simp [hst]))
          · have h1 : 999 = y.to := congrArg Str.to he
            have h2 : c = y.letter := congrArg Str.letter he
            have h3 : ¬ 999 = y.to ∨ ¬ c = y.letter := by assumption
            omega
        · rw [if_neg he] at hst
          have hs : True := trivial
          repeat' first | (with_reducible first | refine q01 ?_ | refine q03 ?_ | refine q04 ?_ | refine q06 ?_ | refine q11 ?_ | refine q12 ?_ | refine q14 ?_ | refine q16 ?_ | refine And.intro (by omega) ?_) | (refine CallE.embed [] (c4) ?_ ?_ ?_ ?_ ?_ ?_; (focus (simp [emb]; done)); (focus (simp; done)); (focus (simp; done)); (focus (simp; done)); (focus (refine emb_all ?_; simp [emb, embAll]; done)); try simp -dsimp [mergeO, emb, hx, hlt, hw, hlf, hwl, hlg, hl1, hLy, hwm, hs]) | (refine CallE.embed_ex [3,4,5,6,7,8,9] (c5) ?_ ?_ ?_ ?_ ?_ ?_; (focus (simp [emb]; done)); (focus (simp; done)); (focus (simp; done)); (focus (simp; done)); (focus (refine emb_all ?_; simp [emb, embAll]; done)); intro mm hmm; try simp -dsimp [mergeO, emb, hx, hlt, hw, hlf, hwl, hlg, hl1, hLy, hwm, hs]) | (refine DT_regionM (id := 11) (nt := 74) 15 [0,1,2,3,6,7,8,9,10,12,13,14,23,26,27,28,29,46,61] mixed rfl (by kernel_rfl) ?_; simp -dsimp [hx, hlt, hw, hlf, hwl, hlg, hl1, hLy, hwm, hs]) | (with_reducible refine DT_regionE [0,1,2,3,6,7,8,9,10,12,13,14,23,26,27,28,29,46,61] ?_; simp -dsimp [hx, hlt, hw, hlf, hwl, hlg, hl1, hLy, hwm, hs]) | (refine DT_cond rfl (fun h => ?_) (fun h => ?_) <;> (try simp only [nrm] at h) <;> (try exact Bool.noConfusion h))
          all_goals try simp -dsimp [hx, hlt, hw, hlf, hwl, hlg, hl1, hLy, hwm, hs]
          all_goals try clear hs
          · have h3 : 999 = y.to ∧ c = y.letter := by assumption
            exact absurd (show (⟨y.frm, 999, c⟩ : Str) = y by rw [h3.1, h3.2]) he
          · exact At.round ⟨(k + 1, g + 1, false), by simp only; omega⟩ (by simp only; omega) (Weak.of_drop [1,2,8,10,26,27,28] 3 (by simp) (by simp) (by simp [hst, hsl2, hdl]; simp only [encStr, rI] at htk; exact ⟨by omega, by rw [htk]; simp⟩))
    · obtain rfl : k = M.length := by omega
      have hs : True := trivial
      repeat' first | (with_reducible first | refine q01 ?_ | refine q03 ?_ | refine q06 ?_ | refine q11 ?_ | refine q16 ?_ | refine q17 ?_) | (with_reducible refine At.fn_ret (by simp -dsimp [hlt, hs]; exact rfl) ?_) | (with_reducible refine DT_regionE [0,1,2,3,6,7,8,9,10,12,13,14,23,26,27,28,29,46,61] ?_; simp -dsimp [hlt, hs]) | (refine DT_cond rfl (fun h => ?_) (fun h => ?_) <;> (try simp only [nrm] at h) <;> (try exact Bool.noConfusion h))
      all_goals try simp -dsimp [hlt, hs]
      all_goals try clear hs
      all_goals simp [h0]
  · rw [show drawnR n s 1 d = .one (.im (.raw (.pointer none))) by unfold drawnR; rw [if_neg h0]] at c1
    have hs : True := trivial
    repeat' first | (with_reducible first | refine q01 ?_ | refine q02 ?_ | refine q11 ?_ | refine q17 ?_) | (with_reducible refine At.fn_ret (by simp -dsimp [h0, hs]; exact rfl) ?_) | (refine CallE.pure (c1) ?_; try simp -dsimp [h0, hs]) | (with_reducible refine DT_regionE [0,1,2,3,6,7,8,9,10,12,13,14,23,26,27,28,29,46,61] ?_; simp -dsimp [h0, hs]) | (refine DT_cond rfl (fun h => ?_) (fun h => ?_) <;> (try simp only [nrm] at h) <;> (try exact Bool.noConfusion h))
    all_goals try simp -dsimp [h0, hs]
    all_goals try clear hs
    all_goals simp [h0]
end Go.Proofs
namespace Go.Proofs
open Go Go.Ab
set_option linter.unusedSimpArgs false
variable {G : Nat → Option (List IC)}
def strd (x : Str) : DV := .agg ((encStr x).map .im)
theorem indexFunc_str (l : List Str) (p : Str → Bool) (k : Nat) (caps : List DC) (objs : List DObj) (hok : CallOk Tryd.prog k) (hf : ∀ x ∈ l, DCall Tryd.prog G k (strd x :: caps.map .one) objs (fun d o => d = bv (p x) ∧ o = objs)) (hl : l.length < 1000000) : DCall Tryd.prog G 28 [.one (.im (.sl (l.map encStr))), .one (.fn (.func k) caps)] objs (fun d o => d = iv (fidx p l) ∧ o = objs) := by
  refine DCall_intro Tryd.func28 rfl Tryd.ntmps28 (by simp) rfl ?_
  have hs : True := trivial
  repeat' first | (with_reducible first | refine q01 ?_ | refine q11 ?_ | refine q12 ?_) | (with_reducible refine DT_regionE [0,1,4,5,7,8,9,16] ?_; simp -dsimp [hs])
  all_goals try simp -dsimp [hs]
  all_goals try clear hs
  refine DT_loop (ι := { k : Nat // k ≤ l.length ∧ ∀ j x, j < k → l[j]? = some x → p x = false }) (fun i => ⟨19, [(0, .one (.im (.sl (l.map encStr)))), (1, .one (.fn (.func k) caps)), (7, iv (l.length : Int)), (8, iv (i.1 : Int))], objs⟩) (fun i => l.length - i.1) ⟨0, by simp⟩ (Weak.of_keep [0,1,7,8] (by simp)) ?_
  rintro ⟨i, hi, hno⟩
  simp only [iv]
  by_cases hlt : i < l.length
  · have hx : l[i]? = some l[i] := by simp [hlt]
    have hw : IntKind.i64.wrap ((i : Int) + 1) = ((i + 1 : Nat) : Int) := i64w (by omega) (by omega)
    have hc := hf l[i] (by simp)
    simp only [strd, encStr, List.map_cons, List.map_nil, bv, rI] at hc
    have hs : True := trivial
    repeat' first | (with_reducible first | refine q01 ?_ | refine q02 ?_ | refine q03 ?_ | refine q04 ?_ | refine q05 ?_ | refine q06 ?_ | refine q11 ?_ | refine q12 ?_ | refine q14 ?_ | refine q16 ?_ | refine q17 ?_ | refine And.intro (by omega) ?_) | (with_reducible refine At.fn_ret (by simp -dsimp [hx, hw, hok, hs]; exact rfl) ?_) | (refine CallE.here hc ?_; try simp -dsimp [hx, hw, hok, hs]) | (with_reducible refine DT_regionE [0,1,4,5,7,8,9,16] ?_; simp -dsimp [hx, hw, hok, hs]) | (refine DT_cond rfl (fun h => ?_) (fun h => ?_) <;> (try simp only [nrm] at h) <;> (try exact Bool.noConfusion h)) | with_reducible refine And.intro ?_ ?_
    all_goals try simp -dsimp [hx, hw, hok, hs]
    all_goals try clear hs
    all_goals try omega
    · exact (fidx_yes hx (by assumption) hno).symm
    · exact At.round ⟨i + 1, by omega, fun j x hj hjx => by
        by_cases e : j = i
        · subst e; rw [hx] at hjx; cases hjx; assumption
        · exact hno j x (by omega) hjx⟩ (by simp; omega) (Weak.of_keep [0,1,7,8] (by simp))
  · have hs : True := trivial
    repeat' first | (with_reducible first | refine q01 ?_ | refine q03 ?_ | refine q06 ?_ | refine q11 ?_ | refine q12 ?_ | refine q14 ?_ | refine q16 ?_ | refine q17 ?_) | (with_reducible refine At.fn_ret (by simp -dsimp [hs]; exact rfl) ?_) | (with_reducible refine DT_regionE [0,1,4,5,7,8,9,16] ?_; simp -dsimp [hs]) | (refine DT_cond rfl (fun h => ?_) (fun h => ?_) <;> (try simp only [nrm] at h) <;> (try exact Bool.noConfusion h)) | with_reducible refine And.intro ?_ ?_
    all_goals try simp -dsimp [hs]
    all_goals try clear hs
    all_goals try omega
    exact (fidx_no fun j x hjx => hno j x (by have := lt_of_getElem? hjx; omega) hjx).symm
def firstV (L : List Str) (lt : Int) : Int := match L.find? (fun x => decide (x.letter = lt)) with | some x => x.frm | none => 0
def firstE (L : List Str) (lt : Int) : Int := if (L.any fun x => decide (x.letter = lt)) = true then 0 else 6
theorem first_case {L : List Str} {lt : Int} : (fidx (fun x => decide (x.letter = lt)) L = -1 ∧ firstV L lt = 0 ∧ firstE L lt = 6) ∨ ∃ (i : Nat) (h : i < L.length), fidx (fun x => decide (x.letter = lt)) L = (i : Int) ∧ firstV L lt = L[i].frm ∧ firstE L lt = 0 := by
  have hn := fidx_nonneg (fun x : Str => decide (x.letter = lt)) L
  unfold fidx at *
  cases h : L.findIdx? fun x => decide (x.letter = lt) with
  | none =>
    refine .inl ⟨rfl, ?_, ?_⟩
    · have : L.find? (fun x => decide (x.letter = lt)) = none := by
        rw [List.find?_eq_none]
        exact fun x hx => by simpa using (List.findIdx?_eq_none_iff.1 h) x hx
      rw [firstV, this]
    · rw [h] at hn
      rw [firstE, ← hn]; rfl
  | some i =>
    rw [List.findIdx?_eq_some_iff_getElem] at h
    obtain ⟨hlt, hp, hno⟩ := h
    refine .inr ⟨i, hlt, rfl, ?_, ?_⟩
    · have : L.find? (fun x => decide (x.letter = lt)) = some L[i] := by
        rw [List.find?_eq_some_iff_getElem]
        exact ⟨hp, i, hlt, rfl, fun j hj => by simpa using hno j hj⟩
      rw [firstV, this]
    · rw [firstE, if_pos]
      exact List.any_eq_true.2 ⟨L[i], List.getElem_mem hlt, hp⟩
theorem first1_c (n : Notes) (d lt : Int) (y : Str) : DCall Tryd.prog G 29 (strd y :: [DC.ptr 1 0].map .one) [.row ((encNotes n).map .im), .row [.im (rI d), .im (rI lt)]] (fun r o => r = bv (decide (y.letter = lt)) ∧ o = [.row ((encNotes n).map .im), .row [.im (rI d), .im (rI lt)]]) := by
  refine DCall.drop ?_
  refine DCall_intro Tryd.func29 rfl Tryd.ntmps29 (by simp) rfl ?_
  simp only [strd, encStr, encNotes, rI]
  have hs : True := trivial
  repeat' first | (with_reducible first | refine q01 ?_ | refine q11 ?_ | refine q17 ?_) | (with_reducible refine At.fn_ret (by simp -dsimp [hs]; exact rfl) ?_) | (with_reducible refine DT_regionE [0,1,2,3] ?_; simp -dsimp [hs]) | with_reducible refine And.intro ?_ ?_
  all_goals try simp -dsimp [hs]
  all_goals try clear hs
def strL (n : Notes) (s : List Int) (d : Int) : List Str := if drawnE n s 1 d = 0 then strP (letF n s d) (marksP n.notes) else []
theorem strL_len (n : Notes) (s : List Int) (d : Int) : (strL n s d).length ≤ 2 * n.notes.length + 1 := by
  unfold strL
  split
  · have h1 := strT_len (letF n s d) (marksP n.notes) (marksP n.notes).length
    have h2 := marks_len n.notes
    unfold strT at h1
    rw [List.take_length] at h1; omega
  · simp
def firE (n : Notes) (s : List Int) (d lt : Int) : Int := if drawnE n s 1 d ≠ 0 then drawnE n s 1 d else firstE (strL n s d) lt
def firV (n : Notes) (s : List Int) (d lt : Int) : Int := if drawnE n s 1 d ≠ 0 then 0 else firstV (strL n s d) lt
set_option maxHeartbeats 1000000 in
theorem nFirst_c (n : Notes) (s : List Int) (d lt : Int) (hG : sheetG G) (hN : noteG G) (hS : SortOk G) (hs : NSm n) (hsl : s.length < 1000) (objs : List DObj) : DCall Tryd.prog G 7 [notesv n, isv s, refv d lt] objs (fun rr objs' => rr = .tup [iv (firV n s d lt), iv (firE n s d lt)] ∧ objs' = objs) := by
  refine DCall.frame ?_ (by simp) (by simp) objs
  refine DCall_intro Tryd.func7 rfl Tryd.ntmps7 (by simp) rfl ?_
  try simp only [notesv, isv, refv]
  have c1 := nStretches_c n s d hG hN hS hs hsl
  rw [← strL] at c1
  have hn16 := hs.2.1
  have hll := strL_len n s d
  by_cases h0 : drawnE n s 1 d = 0
  · rw [h0] at c1
    have hE : firE n s d lt = firstE (strL n s d) lt := by unfold firE; rw [if_neg (by simp [h0])]
    have hV : firV n s d lt = firstV (strL n s d) lt := by unfold firV; rw [if_neg (by simp [h0])]
    generalize strL n s d = L at *
    have c2 := indexFunc_str (G := G) L (fun x => decide (x.letter = lt)) 29 [.ptr 1 0] [.row ((encNotes n).map .im), .row [.im (rI d), .im (rI lt)]] (by simp) (fun y _ => first1_c n d lt y) (by omega)
    simp only [encNotes, rI, List.map_cons, List.map_nil] at c2
    rcases first_case (L := L) (lt := lt) with ⟨hf, hv, he⟩ | ⟨i, hi, hf, hv, he⟩
    · rw [hf] at c2
      rw [hv] at hV; rw [he] at hE
      have hs : True := trivial
      repeat' first | (with_reducible first | refine q01 ?_ | refine q02 ?_ | refine q11 ?_ | refine q14 ?_ | refine q17 ?_) | (with_reducible refine At.fn_ret (by simp -dsimp [hs]; exact rfl) ?_) | (refine CallE.pure (c1) ?_; try simp -dsimp [hs]) | (refine CallE.here (c2) ?_; try simp -dsimp [hs]) | (with_reducible refine DT_regionE [0,1,2,3,5,6,7,8,9,10,20,26] ?_; simp -dsimp [hs]) | (refine DT_cond rfl (fun h => ?_) (fun h => ?_) <;> (try simp only [nrm] at h) <;> (try exact Bool.noConfusion h))
      all_goals try simp -dsimp [hs]
      all_goals try clear hs
      all_goals simp [hE, hV]
    · rw [hf] at c2
      rw [hv] at hV; rw [he] at hE
      generalize hy : L[i] = y at *
      have hi0 : ¬ (i : Int) < 0 := by omega
      have hs : True := trivial
      repeat' first | (with_reducible first | refine q01 ?_ | refine q11 ?_ | refine q14 ?_ | refine q17 ?_) | (with_reducible refine At.fn_ret (by simp -dsimp [hi, hy, hi0, hs]; exact rfl) ?_) | (refine CallE.pure (c1) ?_; try simp -dsimp [hi, hy, hi0, hs]) | (refine CallE.here (c2) ?_; try simp -dsimp [hi, hy, hi0, hs]) | (with_reducible refine DT_regionE [0,1,2,3,5,6,7,8,9,10,20,26] ?_; simp -dsimp [hi, hy, hi0, hs]) | (refine DT_cond rfl (fun h => ?_) (fun h => ?_) <;> (try simp only [nrm] at h) <;> (try exact Bool.noConfusion h))
      all_goals try simp -dsimp [hi, hy, hi0, hs]
      all_goals try clear hs
      all_goals simp [hE, hV]
  · have hE : firE n s d lt = drawnE n s 1 d := by unfold firE; rw [if_pos h0]
    have hV : firV n s d lt = 0 := by unfold firV; rw [if_pos h0]
    have hs : True := trivial
    repeat' first | (with_reducible first | refine q01 ?_ | refine q02 ?_ | refine q11 ?_ | refine q17 ?_) | (with_reducible refine At.fn_ret (by simp -dsimp [h0, hs]; exact rfl) ?_) | (refine CallE.pure (c1) ?_; try simp -dsimp [h0, hs]) | (with_reducible refine DT_regionE [0,1,2,3,5,6,7,8,9,10,20,26] ?_; simp -dsimp [h0, hs]) | (refine DT_cond rfl (fun h => ?_) (fun h => ?_) <;> (try simp only [nrm] at h) <;> (try exact Bool.noConfusion h))
    all_goals try simp -dsimp [h0, hs]
    all_goals try clear hs
    all_goals simp [hE, hV, h0]
end Go.Proofs
namespace Go.Proofs
open Go Go.Ab
end Go.Proofs
namespace Go.Proofs
open Go Go.Ab
end Go.Proofs
namespace Go.Proofs
open Go Go.Ab
end Go.Proofs
namespace Go.Proofs
open Go Go.Ab
end Go.Proofs
namespace Go.Proofs
open Go Go.Ab
theorem selN_sub (N : List Int) (s : Nat) : ∀ k, k ≤ N.length → (selN N s k).Sublist (N.take k)
  | 0, _ => by simp [selN]
  | k + 1, h => by
    have hk : k < N.length := by omega
    rw [selN_succ, List.take_succ_eq_append_getElem hk, show N.getD k 0 = N[k] by simp [hk]]
    refine (selN_sub N s k (by omega)).append ?_
    split
    · exact List.Sublist.refl _
    · simp
theorem truths_mem {O : List Int} (hO : O.Pairwise (· < ·)) {t : List Int} : t ∈ truthsL O ↔ t.Sublist O := by
  unfold truthsL trTo
  rw [List.mem_map]
  constructor
  · rintro ⟨s, _, rfl⟩
    have := selN_sub O s O.length (Nat.le_refl _)
    rwa [List.take_length] at this
  · intro ht
    obtain ⟨s, h1, h2⟩ := mask_ex (fun i => decide (O.getD i 0 ∈ t)) O.length
    refine ⟨s, by simpa using h1, ?_⟩
    have hs : (selN O s O.length).Sublist O := by
      have := selN_sub O s O.length (Nat.le_refl _)
      rwa [List.take_length] at this
    refine strict_eq (hO.sublist hs) (hO.sublist ht) fun x => ?_
    rw [selN_mem (Nat.le_refl _)]
    constructor
    · rintro ⟨i, hi, hb, hx⟩
      rw [h2 i hi, decide_eq_true_eq, List.getD_eq_getElem?_getD, hx] at hb
      exact hb
    · intro hx
      obtain ⟨i, hi⟩ := List.mem_iff_getElem?.1 (ht.subset hx)
      have hl := lt_of_getElem? hi
      exact ⟨i, hl, by rw [h2 i hl, decide_eq_true_eq, List.getD_eq_getElem?_getD, hi]; exact hx, hi⟩
end Go.Proofs
namespace Go.Proofs
open Go Go.Ab
theorem x_small : NSm nX := ⟨⟨by decide +kernel, by decide +kernel⟩, by decide +kernel, by decide +kernel⟩
theorem x_smallN : SmallN nX := ⟨⟨by decide +kernel, by decide +kernel⟩, by decide +kernel⟩
theorem x_smallS : NSm nS := ⟨⟨by decide +kernel, by decide +kernel⟩, by decide +kernel, by decide +kernel⟩
theorem x_asked102 (m : Int) (h1 : 1 ≤ m) (h2 : m ≤ 999) : askedE nX [102] m = 0 := by
  unfold askedE
  rw [if_neg (by rw [x_notes]; decide), if_neg (by rw [x_open]; decide +kernel), if_pos ⟨h1, h2⟩]
theorem x_asked9 : askedE nX [102] 9 = 0 := x_asked102 9 (by omega) (by omega)
theorem x_drawn102 : drawnE nX [102] 1 10 = 0 := by
  unfold drawnE
  rw [if_neg (by rw [x_asked102 1 (by omega) (by omega)]; decide), if_pos (by rw [x_nums]; simp)]
theorem x_strL : strL nX [102] 10 = [⟨1, 7, 1⟩, ⟨8, 20, 2⟩, ⟨21, 999, 1⟩] := by
  unfold strL
  rw [x_drawn102, if_pos rfl, x_str10]
theorem x_first : firV nX [102] 10 2 = 8 ∧ firE nX [102] 10 2 = 0 := by
  unfold firV firE
  rw [x_drawn102, x_strL]
  decide +kernel
theorem x_askedS : askedE nS [] 10 = 0 := by
  unfold askedE
  rw [if_neg (by rw [y_check]; decide), if_neg (by rw [y_open]; decide +kernel), if_pos (by decide)]
theorem x_drawnS : drawnE nS [] 10 10 = 0 := by
  unfold drawnE
  rw [if_neg (by rw [x_askedS]; decide), if_pos (by show (10 : Int) ∈ nums nX.reg; rw [x_nums]; simp)]
theorem x_posS : dedupI (isort ((truthsL (isort (openL nS.notes))).map fun t => letF nS t 10 10)) = [2] := by
  rw [y_open, y_truths, List.map_cons, List.map_nil, y_let]
  rw [show isort [(2 : Int)] = [2] from isort_eq (by decide) (by decide)]
  decide +kernel
theorem x_posX : dedupI (isort ((truthsL (isort (openL nX.notes))).map fun t => letF nX t 10 10)) = [1,2] := by
  rw [x_open, x_truths, List.map_cons, List.map_cons, List.map_nil, x_let1, x_let2]
  rw [show isort [(1 : Int), 2] = [1,2] from isort_eq (by decide) (by decide)]
  decide +kernel
end Go.Proofs
namespace Go.Proofs
open Go Go.Ab
set_option linter.unusedSimpArgs false
variable {G : Nat → Option (List IC)}
set_option maxHeartbeats 4000000 in
theorem register_c  (objs : List DObj) : DCall Tryd.prog G 27 [] objs (fun rr objs' => rr = regv regX ∧ objs' = objs) := by
  refine DCall.frame ?_ (by simp) (by simp) objs
  refine DCall_intro Tryd.func27 rfl Tryd.ntmps27 (by simp) rfl ?_
  try simp only [iv]
  have hs : True := trivial
  repeat' first | (with_reducible first | refine q01 ?_ | refine q11 ?_ | refine q17 ?_) | (with_reducible refine At.fn_ret (by simp -dsimp [hs]; exact rfl) ?_) | (with_reducible refine DT_regionN (id := 1) (nt := 24) [0] rfl ?_; simp -dsimp [hs]) | (with_reducible refine DT_regionE [0] ?_; simp -dsimp [hs])
  all_goals try simp -dsimp [hs]
  all_goals try clear hs
  all_goals simp [regX]
set_option maxHeartbeats 4000000 in
theorem notesX_c  (objs : List DObj) : DCall Tryd.prog G 6 [] objs (fun rr objs' => rr = notesv nX ∧ objs' = objs) := by
  refine DCall.frame ?_ (by simp) (by simp) objs
  refine DCall_intro Tryd.func6 rfl Tryd.ntmps6 (by simp) rfl ?_
  try simp only [iv]
  have c1 := register_c (G := G)
  simp only [regv] at c1
  have hs : True := trivial
  repeat' first | (with_reducible first | refine q01 ?_ | refine q11 ?_ | refine q17 ?_) | (with_reducible refine At.fn_ret (by simp -dsimp [hs]; exact rfl) ?_) | (refine CallE.pure (c1) ?_; try simp -dsimp [hs]) | (with_reducible refine DT_regionE [0] ?_; simp -dsimp [hs])
  all_goals try simp -dsimp [hs]
  all_goals try clear hs
  all_goals simp [nX, noteX]
theorem forced_c (m : Int) (w : List Int) (hG : sheetG G) (hN : noteG G) (hS : SortOk G) (hw : w.length < 1000) (hm : 1 ≤ m ∧ m ≤ 999) (h : inT nX.notes (frcL [] [] m nX.notes) 4 = w) (objs : List DObj) : DCall Tryd.prog G 19 [iv m, isv w] objs (fun rr objs' => rr = bv true ∧ objs' = objs) := by
  refine DCall.frame ?_ (by simp) (by simp) objs
  refine DCall_intro Tryd.func19 rfl Tryd.ntmps19 (by simp) rfl ?_
  try simp only [iv, isv]
  have c1 := notesX_c (G := G)
  have c2 := nForce_c (G := G) nX [] m hG hN hS x_small (by simp)
  rw [x_asked m hm.1 hm.2, if_pos rfl, show nX.notes.length = 4 from rfl, h] at c2
  have c3 := isX_c (G := G) w 0 w (by omega) (by omega)
  simp only [decide_true, Bool.and_self] at c3
  clear hG hN hS
  generalize nX = n at *
  have hs : True := trivial
  repeat' first | (with_reducible first | refine q01 ?_ | refine q11 ?_ | refine q17 ?_) | (with_reducible refine At.fn_ret (by simp -dsimp [hs]; exact rfl) ?_) | (refine CallE.pure (c1) ?_; try simp -dsimp [hs]) | (refine CallE.pure (c2) ?_; try simp -dsimp [hs]) | (refine CallE.pure (c3) ?_; try simp -dsimp [hs]) | (with_reducible refine DT_regionE [0,1,4,5,6] ?_; simp -dsimp [hs])
  all_goals try simp -dsimp [hs]
  all_goals try clear hs
theorem lettered_c (s : List Int) (m : Int) (w : List Int) (hG : sheetG G) (hN : noteG G) (hS : SortOk G) (hs : s.length < 1000) (hw : w.length < 1000) (ha : askedE nX s m = 0) (h : lettersK nX s m = w) (objs : List DObj) : DCall Tryd.prog G 20 [isv s, iv m, isv w] objs (fun rr objs' => rr = bv true ∧ objs' = objs) := by
  refine DCall.frame ?_ (by simp) (by simp) objs
  refine DCall_intro Tryd.func20 rfl Tryd.ntmps20 (by simp) rfl ?_
  try simp only [isv, iv, isv]
  have c1 := notesX_c (G := G)
  have c2 := nLetters_c (G := G) nX s m hG hN hS x_small hs
  rw [ha, if_pos rfl, letters_eq, h] at c2
  have c3 := isX_c (G := G) w 0 w (by omega) (by omega)
  simp only [decide_true, Bool.and_self] at c3
  clear hG hN hS
  generalize nX = n at *
  have hs : True := trivial
  repeat' first | (with_reducible first | refine q01 ?_ | refine q11 ?_ | refine q17 ?_) | (with_reducible refine At.fn_ret (by simp -dsimp [hs]; exact rfl) ?_) | (refine CallE.pure (c1) ?_; try simp -dsimp [hs]) | (refine CallE.pure (c2) ?_; try simp -dsimp [hs]) | (refine CallE.pure (c3) ?_; try simp -dsimp [hs]) | (with_reducible refine DT_regionE [0,1,2,6,7,8] ?_; simp -dsimp [hs])
  all_goals try simp -dsimp [hs]
  all_goals try clear hs
theorem possible_c (n : Notes) (d m : Int) (w : List Int) (hG : sheetG G) (hN : noteG G) (hS : SortOk G) (hs : NSm n) (hw : w.length < 1000) (ha : drawnE n [] m d = 0) (h : dedupI (isort ((truthsL (isort (openL n.notes))).map fun t => letF n t d m)) = w) (objs : List DObj) : DCall Tryd.prog G 23 [notesv n, iv d, iv m, isv w] objs (fun rr objs' => rr = bv true ∧ objs' = objs) := by
  refine DCall.frame ?_ (by simp) (by simp) objs
  refine DCall_intro Tryd.func23 rfl Tryd.ntmps23 (by simp) rfl ?_
  try simp only [notesv, iv, iv, isv]
  have c2 := nPossible_c (G := G) n d m hG hN hS hs
  rw [ha, if_pos rfl, h] at c2
  have c3 := isX_c (G := G) w 0 w (by omega) (by omega)
  simp only [decide_true, Bool.and_self] at c3
  clear hG hN hS
  have hs : True := trivial
  repeat' first | (with_reducible first | refine q01 ?_ | refine q11 ?_ | refine q17 ?_) | (with_reducible refine At.fn_ret (by simp -dsimp [hs]; exact rfl) ?_) | (refine CallE.pure (c2) ?_; try simp -dsimp [hs]) | (refine CallE.pure (c3) ?_; try simp -dsimp [hs]) | (with_reducible refine DT_regionE [0,1,2,3,4,8,9,10] ?_; simp -dsimp [hs])
  all_goals try simp -dsimp [hs]
  all_goals try clear hs
end Go.Proofs
namespace Go.Proofs
open Go Go.Ab
set_option linter.unusedSimpArgs false
variable {G : Nat → Option (List IC)}
theorem nSettleE_c (n : Notes) (a : Int) (b : Bool) (hG : sheetG G) (hN : noteG G) (hS : SortOk G) (hs : NSm n) (h0 : settleE n a ≠ 0) (objs : List DObj) : DCall Tryd.prog G 12 [notesv n, iv a, bv b] objs (fun rr objs' => rr = .tup [notesv ⟨[], []⟩, iv (settleE n a)] ∧ objs' = objs) := by
  refine DCall.frame ?_ (by simp) (by simp) objs
  refine DCall_intro Tryd.func12 rfl Tryd.ntmps12 (by simp) rfl ?_
  try simp only [notesv, iv, bv]
  have c1 := opened_c n hG hN hS hs
  simp only [iv, fileR] at c1
  by_cases hE : notesE n = 0
  · rw [if_pos hE] at c1
    have hnk := notes_ok hE
    have ho : ¬ a ∈ isort (openL n.notes) := fun h => h0 (by unfold settleE; rw [if_neg (by simp [hE]), if_pos (isort_mem.1 h)])
    have hs6 : settleE n a = 6 := by unfold settleE; rw [if_neg (by simp [hE]), if_neg fun h => ho (isort_mem.2 h)]
    have c2 := contains_c (G := G) (isort (openL n.notes)) a (by rw [isortL]; omega)
    rw [decide_eq_false ho] at c2
    rw [hE] at c1
    rw [hs6]
    simp only [isv, iv, bv, fileI] at c1 c2
    have hs : True := trivial
    repeat' first | (with_reducible first | refine q01 ?_ | refine q02 ?_ | refine q11 ?_ | refine q14 ?_ | refine q17 ?_) | (with_reducible refine At.fn_ret (by simp -dsimp [ho, hs]; exact rfl) ?_) | (refine CallE.pure (c1) ?_; try simp -dsimp [ho, hs]) | (refine QCall_pure (c2) ?_; try simp -dsimp [ho, hs]) | (refine DT_regionM (id := 4) (nt := 76) 7 [0,1,2,3,4,6,7,8,9,10,12,13,20,29,37,38,39,40,69] mixed rfl (by kernel_rfl) ?_; simp -dsimp [ho, hs]) | (with_reducible refine DT_regionE [0,1,2,3,4,6,7,8,9,10,12,13,20,29,37,38,39,40,69] ?_; simp -dsimp [ho, hs]) | (refine DT_cond rfl (fun h => ?_) (fun h => ?_) <;> (try simp only [nrm] at h) <;> (try exact Bool.noConfusion h))
    all_goals try simp -dsimp [ho, hs]
    all_goals try clear hs
    all_goals simp
  · rw [if_neg hE] at c1
    have hs6 : settleE n a = notesE n := by unfold settleE; rw [if_pos hE]
    rw [hs6]
    have hs : True := trivial
    repeat' first | (with_reducible first | refine q01 ?_ | refine q02 ?_ | refine q11 ?_ | refine q17 ?_) | (with_reducible refine At.fn_ret (by simp -dsimp [hE, hs]; exact rfl) ?_) | (refine CallE.pure (c1) ?_; try simp -dsimp [hE, hs]) | (with_reducible refine DT_regionE [0,1,2,3,4,6,7,8,9,10,12,13,20,29,37,38,39,40,69] ?_; simp -dsimp [hE, hs]) | (refine DT_cond rfl (fun h => ?_) (fun h => ?_) <;> (try simp only [nrm] at h) <;> (try exact Bool.noConfusion h))
    all_goals try simp -dsimp [hE, hs]
    all_goals try clear hs
    all_goals simp
theorem settle1_c (a : Int) (y : Note) (objs : List DObj) : DCall Tryd.prog G 42 [notev y, .one (.im (.ip [rI a]))] objs (fun d o => d = bv (decide (y.number = a)) ∧ o = objs) := by
  refine DCall.frame ?_ (by simp) (by simp) objs
  refine DCall_intro Tryd.func42 rfl Tryd.ntmps42 (by simp) rfl ?_
  have hs : True := trivial
  repeat' first | (with_reducible first | refine q01 ?_ | refine q11 ?_ | refine q17 ?_) | (with_reducible refine At.fn_ret (by simp -dsimp [hs]; exact rfl) ?_) | (with_reducible refine DT_regionE [0,1,2,3] ?_; simp -dsimp [hs])
  all_goals try simp -dsimp [hs]
  all_goals try clear hs
def SetP (n : Notes) (a : Int) (b : Bool) (d : DV) (o : List DObj) : Prop := ∃ i : Nat × Nat × Nat × Bool, True ∧ d = .tup [.agg [.vec 7 i.2.1 0 n.reg.length, .vec 6 i.1 0 n.notes.length], iv 0] ∧ o = [.row ((encNotes n).map .im), .row [.im (rI a)], .vec 0 [] 0 true, .vec 0 [] 0 true, .row [.vec 7 i.2.1 0 n.reg.length, .vec 6 i.1 0 n.notes.length], .vec 10 [] 0 true, .vec 10 (ims ((settleL n a b).map encNote)) i.1 false, .vec i.2.2.1 (ims (n.reg.map encIssue)) i.2.1 i.2.2.2, .vec 0 [] 0 true, .vec 0 [] 0 true, .vec 0 [] 0 true, .row [.vec 7 i.2.1 0 n.reg.length, .vec 6 i.1 0 n.notes.length]]
set_option maxHeartbeats 4000000 in
theorem nSettleS_c (n : Notes) (a : Int) (b : Bool) (hG : sheetG G) (hN : noteG G) (hS : SortOk G) (hsn : SmallN n) (hs : NSm n) (h0 : settleE n a = 0) : DCall Tryd.prog G 12 [notesv n, iv a, bv b] [] (SetP n a b) := by
  refine DCall_intro Tryd.func12 rfl Tryd.ntmps12 (by simp) rfl ?_
  have c1 := opened_c n hG hN hS hs
  have hE : notesE n = 0 := by
    unfold settleE at h0
    split at h0
    · contradiction
    · simpa using ‹¬ notesE n ≠ 0›
  have hnk := notes_ok hE
  have ho : a ∈ openL n.notes := by
    unfold settleE at h0
    rw [if_neg (by simp [hE])] at h0
    split at h0
    · assumption
    · cases h0
  have c2 := contains_c (G := G) (isort (openL n.notes)) a (by rw [isortL]; omega)
  rw [decide_eq_true (isort_mem.2 ho)] at c2
  have c3 := cloneNN_c (G := G) n.notes (by omega)
  simp only [iv, isv, bv, fileR, if_pos hE, fileI] at c1 c2 c3
  rw [hE] at c1
  simp only [iv]
  obtain ⟨k0, x0, hx0, hn0, hg0⟩ := open_mem.1 ho
  have hk0 := lt_of_getElem? hx0
  have hx0e : n.notes[k0] = x0 := (List.getElem?_eq_some_iff.1 hx0).2
  have hne : n.notes ≠ [] := fun e => by rw [e] at hk0; simp at hk0
  have c5 := fun objs => DCall.fnArg2 (cs := [.ip [rI a]]) (indexFunc_note (G := G) n.notes (fun y => decide (y.number = a)) 42 [.im (.ip [rI a])] objs (by simp) (fun x _ => settle1_c a x objs) (by omega))
  rw [show fidx (fun y => decide (y.number = a)) n.notes = (k0 : Int) by rw [← hn0]; exact fidx_num hnk.2.2.1 hx0] at c5
  have hL : settleL n a b = n.notes.set k0 (sgn x0 (if b = true then 2 else 0)) := by
    unfold settleL setSg; rw [show settleI n a = k0 by rw [← hn0]; exact settleI_at hnk.2.2.1 hx0, hx0]
  have hN60 : n.reg.length ≤ 80 := by have := hs.1.1; omega
  have hit : ∀ x ∈ n.reg, x.items.length < 1000000 ∧ x.dims.length < 1000000 := fun x hx => by have := hs.1.2 x hx; omega
  clear hS hG hN
  have hs : True := trivial
  repeat' first | (with_reducible first | refine q01 ?_ | refine q11 ?_ | refine q12 ?_ | refine q14 ?_) | (refine CallE.pure (c1) ?_; try simp -dsimp [hs]) | (refine QCall_pure (c2) ?_; try simp -dsimp [hs]) | (refine CallE.embed_ex [] (c3) ?_ ?_ ?_ ?_ ?_ ?_; (focus (simp [emb]; done)); (focus (simp; done)); (focus (simp; done)); (focus (simp; done)); (focus (refine emb_all ?_; simp [emb, embAll]; done)); intro mm hmm; try simp -dsimp [mergeO, emb, hs]) | (refine DT_regionM (id := 4) (nt := 76) 7 [0,1,2,3,4,6,7,8,9,10,12,13,20,29,37,38,39,40,69] mixed rfl (by kernel_rfl) ?_; simp -dsimp [hs]) | (with_reducible refine DT_regionN (id := 6) (nt := 76) [0,1,2,3,4,6,7,8,9,10,12,13,20,29,37,38,39,40,69] rfl ?_; simp -dsimp [hs]) | (with_reducible refine DT_regionE [0,1,2,3,4,6,7,8,9,10,12,13,20,29,37,38,39,40,69] ?_; simp -dsimp [hs]) | (refine DT_cond rfl (fun h => ?_) (fun h => ?_) <;> (try simp only [nrm] at h) <;> (try exact Bool.noConfusion h))
  all_goals try simp -dsimp [hs]
  all_goals try clear hs
  obtain ⟨g6, nl6⟩ := mm
  obtain rfl : nl6 = false := by cases nl6 with
    | false => rfl
    | true => exact absurd (hmm rfl) hne
  refine DT_loop (ι := { p : Nat × Nat × Nat × Bool // p.1 ≤ n.reg.length ∧ ((p.2.2.1 = 5 ∧ p.2.2.2 = false) ∨ (p.2.2.1 = 0 ∧ p.2.2.2 = true ∧ p.1 = 0)) }) (fun p => ⟨76, [(2, bv b), (4, .one (.ptr 1 0)), (6, .one (.ptr 4 0)), (7, iv 0), (10, .one (.ptr 11 0)), (37, .one (.im (.sl (n.reg.map encIssue)))), (38, iv (n.reg.length : Int)), (39, iv (p.1.1 : Int))], [.row ((encNotes n).map .im), .row [.im (rI a)], .vec 0 [] 0 true, .vec 0 [] 0 true, .row [.vec 2 0 0 0, .vec 3 0 0 0], .vec 10 [] 0 true, .vec 10 (ims (n.notes.map encNote)) g6 false, .vec p.1.2.2.1 (ims ((n.reg.take p.1.1).map encIssue)) p.1.2.1 p.1.2.2.2, .vec 0 [] 0 true, .vec 0 [] 0 true, .vec 0 [] 0 true, .row [.vec 7 p.1.2.1 0 p.1.1, .vec 6 g6 0 n.notes.length]]⟩) (fun p => n.reg.length - p.1.1) ⟨(0, 0, 0, true), by simp⟩ (Weak.of_keep [2,4,6,7,10,37,38,39] (by simp)) ?_
  rintro ⟨⟨k, g, sz, nl⟩, hk, hz⟩
  simp only at hk hz
  simp only [iv, bv]
  by_cases hlt : k < n.reg.length
  · have hw : IntKind.i64.wrap ((k : Int) + 1) = ((k + 1 : Nat) : Int) := i64w (by omega) (by omega)
    have hst : n.reg.take (k + 1) = n.reg.take k ++ [n.reg[k]] := List.take_succ_eq_append_getElem hlt
    have hkl : (n.reg.take k).length = k := by simp; omega
    have hxs : n.reg[k]? = some n.reg[k] := List.getElem?_eq_getElem hlt
    have hix := hit n.reg[k] (List.getElem_mem hlt)
    generalize hx : n.reg[k] = x at *
    have c6 := clone_itm (G := G) x.items hix.1
    have c7 := clone_dim (G := G) x.dims hix.2
    have hm : (n.reg.take (k + 1)).map encIssue = (n.reg.take k).map encIssue ++ [encIssue x] := by rw [hst]; simp
    have hml : ((n.reg.take k).map encIssue).length = k := by rw [List.length_map]; exact hkl
    generalize (n.reg.take k).map encIssue = L at *
    rcases hz with ⟨rfl, rfl⟩ | ⟨rfl, rfl, rfl⟩
    · subst hml
      have hs : True := trivial
      repeat' first | (with_reducible first | refine q01 ?_ | refine q04 ?_ | refine q11 ?_ | refine q12 ?_ | refine q14 ?_ | refine And.intro (by omega) ?_) | (refine QCall_pure (c6) ?_; try simp -dsimp [hx, hlt, hxs, hw, hs]) | (refine QCall_pure (c7) ?_; try simp -dsimp [hx, hlt, hxs, hw, hs]) | (refine DT_regionM (id := 10) (nt := 76) 7 [0,1,2,3,4,6,7,8,9,10,12,13,20,29,37,38,39,40,69] mixed rfl (by kernel_rfl) ?_; simp -dsimp [hx, hlt, hxs, hw, hs]) | (with_reducible refine DT_regionE [0,1,2,3,4,6,7,8,9,10,12,13,20,29,37,38,39,40,69] ?_; simp -dsimp [hx, hlt, hxs, hw, hs]) | (refine DT_cond rfl (fun h => ?_) (fun h => ?_) <;> (try simp only [nrm] at h) <;> (try exact Bool.noConfusion h))
      all_goals try simp -dsimp [hx, hlt, hxs, hw, hs]
      all_goals try clear hs
      all_goals exact At.round ⟨(L.length + 1, g + 1, 5, false), by omega, .inl ⟨rfl, rfl⟩⟩ (by simp only; omega) (Weak.of_drop [2,4,6,7,10,37,38,39] 12 (by simp) (by simp) (by simp [hm, show List.take L.length (ims L) = ims L from List.take_of_length_le (by simp)]))
    · obtain rfl := List.eq_nil_of_length_eq_zero hml
      have hw1 : IntKind.i64.wrap 1 = 1 := i64w (by omega) (by omega)
      have hs : True := trivial
      repeat' first | (with_reducible first | refine q01 ?_ | refine q04 ?_ | refine q11 ?_ | refine q12 ?_ | refine q14 ?_) | (refine QCall_pure (c6) ?_; try simp -dsimp [hx, hlt, hxs, hw, hw1, hs]) | (refine QCall_pure (c7) ?_; try simp -dsimp [hx, hlt, hxs, hw, hw1, hs]) | (refine DT_regionM (id := 10) (nt := 76) 7 [0,1,2,3,4,6,7,8,9,10,12,13,20,29,37,38,39,40,69] mixed rfl (by kernel_rfl) ?_; simp -dsimp [hx, hlt, hxs, hw, hw1, hs]) | (with_reducible refine DT_regionE [0,1,2,3,4,6,7,8,9,10,12,13,20,29,37,38,39,40,69] ?_; simp -dsimp [hx, hlt, hxs, hw, hw1, hs]) | (refine DT_cond rfl (fun h => ?_) (fun h => ?_) <;> (try simp only [nrm] at h) <;> (try exact Bool.noConfusion h))
      all_goals try simp -dsimp [hx, hlt, hxs, hw, hw1, hs]
      all_goals try clear hs
      all_goals exact At.round ⟨(1, g + 1, 5, false), by omega, .inl ⟨rfl, rfl⟩⟩ (by simp only; omega) (Weak.of_drop [2,4,6,7,10,37,38,39] 12 (by simp) (by simp) (by simp [hm, hw1]))
  · obtain rfl : k = n.reg.length := by omega
    rw [List.take_length]
    cases b
    · have hs : True := trivial
      repeat' first | (with_reducible first | refine q01 ?_ | refine q03 ?_ | refine q06 ?_ | refine q11 ?_ | refine q14 ?_ | refine q16 ?_ | refine q17 ?_) | (with_reducible refine At.fn_ret (by simp -dsimp [hlt, hk0, hx0, hx0e, hs]; exact rfl) ?_) | (refine CallE.thaw (c5) ?_ ?_ ?_; (focus (simp; done)); (focus (simp; done)); try simp -dsimp [hlt, hk0, hx0, hx0e, hs]) | (with_reducible refine DT_regionE [0,1,2,3,4,6,7,8,9,10,12,13,20,29,37,38,39,40,69] ?_; simp -dsimp [hlt, hk0, hx0, hx0e, hs]) | (refine DT_cond rfl (fun h => ?_) (fun h => ?_) <;> (try simp only [nrm] at h) <;> (try exact Bool.noConfusion h))
      all_goals try simp -dsimp [hlt, hk0, hx0, hx0e, hs]
      all_goals try clear hs
      all_goals exact ⟨(g6, g, sz, nl), trivial, rfl, by
          have hV : ims ((settleL n a false).map encNote) = (ims (n.notes.map encNote)).set k0 ((encNote (sgn x0 0)).map .im) := by rw [hL, List.map_set, imsSet]; rfl
          rw [hV]; rfl⟩
    · have hs : True := trivial
      repeat' first | (with_reducible first | refine q01 ?_ | refine q03 ?_ | refine q06 ?_ | refine q11 ?_ | refine q16 ?_ | refine q17 ?_) | (with_reducible refine At.fn_ret (by simp -dsimp [hlt, hk0, hx0, hx0e, hs]; exact rfl) ?_) | (refine CallE.thaw (c5) ?_ ?_ ?_; (focus (simp; done)); (focus (simp; done)); try simp -dsimp [hlt, hk0, hx0, hx0e, hs]) | (with_reducible refine DT_regionE [0,1,2,3,4,6,7,8,9,10,12,13,20,29,37,38,39,40,69] ?_; simp -dsimp [hlt, hk0, hx0, hx0e, hs]) | (refine DT_cond rfl (fun h => ?_) (fun h => ?_) <;> (try simp only [nrm] at h) <;> (try exact Bool.noConfusion h))
      all_goals try simp -dsimp [hlt, hk0, hx0, hx0e, hs]
      all_goals try clear hs
      all_goals exact ⟨(g6, g, sz, nl), trivial, rfl, by
          have hV : ims ((settleL n a true).map encNote) = (ims (n.notes.map encNote)).set k0 ((encNote (sgn x0 2)).map .im) := by rw [hL, List.map_set, imsSet]; rfl
          rw [hV]; rfl⟩
end Go.Proofs
namespace Go.Proofs
open Go Go.Ab
set_option linter.unusedSimpArgs false
variable {G : Nat → Option (List IC)}
theorem nSettle_c (n : Notes) (a : Int) (b : Bool) (hG : sheetG G) (hN : noteG G) (hS : SortOk G) (hsn : SmallN n) (hs : NSm n) (objs : List DObj) : DCall Tryd.prog G 12 [notesv n, iv a, bv b] objs (fun rr objs' => rr = .tup [notesv (settleN n a b), iv (settleE n a)] ∧ objs' = objs) := by
  by_cases h0 : settleE n a = 0
  · have h := nSettleS_c n a b hG hN hS hsn hs h0
    have hN2 : settleN n a b = ⟨n.reg, settleL n a b⟩ := by unfold settleN; rw [if_pos h0]
    have hll : (settleL n a b).length = n.notes.length := setSg_len _ _ _
    rw [h0, hN2]
    refine DCall.frame (DCall.mono h ?_) (by simp) (by simp) objs
    rintro d o ⟨⟨g6, g7, sz, nl⟩, _, rfl, rfl⟩
    rw [← hll]
    generalize settleL n a b = N2 at *
    simp
  · have hN2 : settleN n a b = ⟨[], []⟩ := by unfold settleN; rw [if_neg h0]
    rw [hN2]
    exact nSettleE_c n a b hG hN hS hs h0 objs
end Go.Proofs
namespace Go.Proofs
open Go Go.Ab
set_option linter.unusedSimpArgs false
variable {G : Nat → Option (List IC)}
end Go.Proofs
namespace Go.Proofs
open Go Go.Ab
set_option linter.unusedSimpArgs false
variable {G : Nat → Option (List IC)}
theorem sameStr_c (l : List Str) (hl : l.length < 1000000) (objs : List DObj) : DCall Tryd.prog G 21 [strv l, strv l] objs (fun rr objs' => rr = bv true ∧ objs' = objs) := by
  refine DCall.frame ?_ (by simp) (by simp) objs
  refine DCall_intro Tryd.func21 rfl Tryd.ntmps21 (by simp) rfl ?_
  try simp only [iv]
  simp only [strv, bv]
  have hs : True := trivial
  repeat' first | (with_reducible first | refine q01 ?_ | refine q11 ?_ | refine q12 ?_ | refine q14 ?_) | (with_reducible refine DT_regionE [0,1,4,5,10,14,25] ?_; simp -dsimp [hs]) | (refine DT_cond rfl (fun h => ?_) (fun h => ?_) <;> (try simp only [nrm] at h) <;> (try exact Bool.noConfusion h))
  all_goals try simp -dsimp [hs]
  all_goals try clear hs
  refine DT_loop (ι := { k : Nat // k ≤ l.length }) (fun p => ⟨26, [(0, strv l), (1, strv l), (5, iv (p.1 : Int))], []⟩) (fun p => l.length - p.1) ⟨0, by simp⟩ (Weak.of_keep [0,1,5] (by simp)) ?_
  rintro ⟨k, hk⟩
  simp only [iv, strv]
  by_cases hlt : k < l.length
  · have hw : IntKind.i64.wrap ((k : Int) + 1) = ((k + 1 : Nat) : Int) := i64w (by omega) (by omega)
    generalize hx : l[k] = x
    have hs : True := trivial
    repeat' first | (with_reducible first | refine q01 ?_ | refine q04 ?_ | refine q11 ?_ | refine q12 ?_ | refine q14 ?_) | (refine DT_regionM (id := 6) (nt := 26) 9 [0,1,4,5,10,14,25] mixed rfl (by kernel_rfl) ?_; simp -dsimp [hx, hlt, hw, hs]) | (with_reducible refine DT_regionE [0,1,4,5,10,14,25] ?_; simp -dsimp [hx, hlt, hw, hs]) | (refine DT_cond rfl (fun h => ?_) (fun h => ?_) <;> (try simp only [nrm] at h) <;> (try exact Bool.noConfusion h))
    all_goals try simp -dsimp [hx, hlt, hw, hs]
    all_goals try clear hs
    exact At.round ⟨k + 1, by omega⟩ (by simp; omega) (Weak.of_keep [0,1,5] (by simp))
  · have hs : True := trivial
    repeat' first | (with_reducible first | refine q01 ?_ | refine q03 ?_ | refine q06 ?_ | refine q11 ?_ | refine q16 ?_ | refine q17 ?_) | (with_reducible refine At.fn_ret (by simp -dsimp [hlt, hs]; exact rfl) ?_) | (with_reducible refine DT_regionE [0,1,4,5,10,14,25] ?_; simp -dsimp [hlt, hs]) | (refine DT_cond rfl (fun h => ?_) (fun h => ?_) <;> (try simp only [nrm] at h) <;> (try exact Bool.noConfusion h))
    all_goals try simp -dsimp [hlt, hs]
    all_goals try clear hs
end Go.Proofs
namespace Go.Proofs
open Go Go.Ab
set_option linter.unusedSimpArgs false
variable {G : Nat → Option (List IC)}
end Go.Proofs
