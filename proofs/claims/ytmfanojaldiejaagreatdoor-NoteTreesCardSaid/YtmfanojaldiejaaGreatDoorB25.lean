/- Part 25 of the proofs: laws and walks that hold without conditions beyond those that each theorem names. -/
import Derived.Test.YtmfanojaldiejaaGreatDoorB21
import Derived.Test.YtmfanojaldiejaaGreatDoorB22
import Derived.Test.YtmfanojaldiejaaGreatDoorB23
import Derived.Test.YtmfanojaldiejaaGreatDoorB24
set_option linter.all false
set_option linter.deprecated false
namespace Go.Proofs
open Go Go.Ab
theorem fidx_case {p : Int → Bool} {l : List Int} : (fidx p l = -1 ∧ l.filter (fun x => !p x) = l) ∨ ∃ i : Nat, fidx p l = (i : Int) ∧ ∃ h : i < l.length, p l[i] = true ∧ (l.take i).filter (fun x => !p x) = l.take i := by
  unfold fidx
  split
  · rename_i i h
    rw [List.findIdx?_eq_some_iff_getElem] at h
    obtain ⟨hlt, hp, hno⟩ := h
    refine .inr ⟨i, rfl, hlt, hp, List.filter_eq_self.2 fun x hx => ?_⟩
    obtain ⟨j, hj, e⟩ := List.mem_take_iff_getElem.1 hx
    have := hno j (by omega)
    rw [e] at this; simpa using this
  · rename_i h
    rw [List.findIdx?_eq_none_iff] at h
    exact .inl ⟨rfl, List.filter_eq_self.2 fun x hx => by simp [h x hx]⟩
theorem ims_take (X : List (List IC)) (m : Nat) : (ims X).take m = ims (X.take m) := by simp [ims, List.map_take]
theorem filter_step {q : Int → Bool} {l : List Int} {j : Nat} (h : j < l.length) : (l.take (j + 1)).filter q = (l.take j).filter q ++ (if q l[j] = true then [l[j]] else []) := by
  rw [List.take_succ_eq_append_getElem h, List.filter_append]
  congr 1
  by_cases e : q l[j] = true <;> simp [e]
variable {G : Nat → Option (List IC)}
theorem marks1_c (v : Int) (objs : List DObj) : DCall Tryz.prog G 95 [iv v] objs (fun rr objs' => rr = bv (decide (999 < v)) ∧ objs' = objs) := by
  refine DCall.frame ?_ (by simp) (by simp) objs
  refine DCall_intro Tryz.func95 rfl Tryz.ntmps95 (by simp) rfl ?_
  try simp only [iv]
  have hs : True := trivial
  repeat' first | (with_reducible first | refine q01 ?_ | refine q11 ?_ | refine q17 ?_) | (with_reducible refine At.fn_ret (by simp -dsimp [hs]; exact rfl) ?_) | (with_reducible refine DT_regionE [0,2] ?_; simp -dsimp [hs])
  all_goals try simp -dsimp [hs]
  all_goals try clear hs
set_option maxHeartbeats 2000000 in
theorem delFunc_c (l : List Int) (m g : Nat) (hm : m ≤ l.length) (hl : l.length < 1000) : DCall Tryz.prog G 94 [.one (.vec 0 g 0 m), .one (.im (.fn (.func 95) []))] [.vec 1 (ims (l.map encI)) g false] (fun d o => ∃ S : List Int, (S.length = l.length ∧ S.take ((l.take m).filter fun x => decide (x ≤ 999)).length = (l.take m).filter fun x => decide (x ≤ 999)) ∧ d = .one (.vec 0 g 0 ((l.take m).filter fun x => decide (x ≤ 999)).length) ∧ o = [.vec 1 (ims (S.map encI)) g false]) := by
  refine DCall.drop ?_
  refine DCall_intro Tryz.func94 rfl Tryz.ntmps94 (by simp) rfl ?_
  have hq : (fun x : Int => !decide (999 < x)) = fun x => decide (x ≤ 999) := funext fun x => by rw [← decide_not, decide_eq_decide]; omega
  have htl : (l.take m).length = m := by simp; omega
  have c1 : ∀ objs, DCall Tryz.prog G 116 [.one (.im (.sl ((l.take m).map encI))), .one (.im (.fn (.func 95) []))] objs (fun d o => d = iv (fidx (fun x => decide (999 < x)) (l.take m)) ∧ o = objs) := fun objs =>
    DCall.fnArg2 (indexFunc_int (G := G) (l.take m) (fun x => decide (999 < x)) 95 [] objs (by simp) (fun x _ => marks1_c x objs) (by simp; omega))
  have hcase := fidx_case (p := fun x => decide (999 < x)) (l := l.take m)
  rw [hq] at hcase
  generalize fidx (fun x => decide (999 < x)) (l.take m) = z at *
  rcases hcase with ⟨rfl, hall⟩ | ⟨i, rfl, hi, hpi, hfi⟩
  · simp only [List.map_take] at c1
    have hs : True := trivial
    repeat' first | (with_reducible first | refine q01 ?_ | refine q02 ?_ | refine q11 ?_ | refine q17 ?_) | (with_reducible refine At.fn_ret (by simp -dsimp [hm, hs]; exact rfl) ?_) | (refine CallE.thaw c1 ?_ ?_ ?_; (focus (simp [hm, ims_take]; done)); (focus (simp; done)); try simp -dsimp [hm, hs]) | (with_reducible refine DT_regionE [0,1,4,5,6,7,12,19,29] ?_; simp -dsimp [hm, hs]) | (refine DT_cond rfl (fun h => ?_) (fun h => ?_) <;> (try simp only [nrm] at h) <;> (try exact Bool.noConfusion h))
    all_goals try simp -dsimp [hm, hs]
    all_goals try clear hs
    exact ⟨l, ⟨rfl, by rw [hall, htl]⟩, by rw [hall, htl], rfl⟩
  · simp only [List.map_take] at c1
    have him : i < m := by omega
    have hwi : IntKind.i64.wrap ((i : Int) + 1) = ((i + 1 : Nat) : Int) := i64w (by omega) (by omega)
    have hL0 : l.take i = ((l.take m).take (i + 1)).filter fun x => decide (x ≤ 999) := by
      rw [filter_step hi, hfi, if_neg (by simp at hpi ⊢; omega), List.append_nil, List.take_take, Nat.min_eq_left (by omega)]
    have hs : True := trivial
    repeat' first | (with_reducible first | refine q01 ?_ | refine q11 ?_ | refine q12 ?_ | refine q14 ?_) | (refine CallE.thaw c1 ?_ ?_ ?_; (focus (simp [hm, ims_take]; done)); (focus (simp; done)); try simp -dsimp [hm, hwi, hs]) | (with_reducible refine DT_regionE [0,1,4,5,6,7,12,19,29] ?_; simp -dsimp [hm, hwi, hs]) | (refine DT_cond rfl (fun h => ?_) (fun h => ?_) <;> (try simp only [nrm] at h) <;> (try exact Bool.noConfusion h))
    all_goals try simp -dsimp [hm, hwi, hs]
    all_goals try clear hs
    refine DT_loop (ι := { p : Nat × Nat × List Int // p.1 ≤ m ∧ p.2.1 + 1 ≤ p.1 ∧ p.2.2.length = l.length ∧ p.2.2.take p.2.1 = ((l.take m).take p.1).filter (fun x => decide (x ≤ 999)) ∧ p.2.2.drop p.1 = l.drop p.1 }) (fun p => ⟨42, [(0, .one (.vec 0 g 0 m)), (1, .one (.im (.fn (.func 95) []))), (5, iv (p.1.2.1 : Int)), (6, iv (p.1.1 : Int))], [.vec 1 (ims (p.1.2.2.map encI)) g false]⟩) (fun p => m - p.1.1) ⟨(i + 1, i, l), by simp only; omega, by simp only; omega, rfl, hL0, rfl⟩ (Weak.of_drop [0,1,5,6] 1 (by simp) (by simp) (by simp)) ?_
    clear c1 hL0 hfi hpi
    rintro ⟨⟨j, w, S⟩, hj, hwj, hSl, hSt, hSd⟩
    simp only at hj hwj hSl hSt hSd
    simp only [iv]
    by_cases hlt : j < m
    · have hw : IntKind.i64.wrap ((j : Int) + 1) = ((j + 1 : Nat) : Int) := i64w (by omega) (by omega)
      have hww : IntKind.i64.wrap ((w : Int) + 1) = ((w + 1 : Nat) : Int) := i64w (by omega) (by omega)
      have hjS : j < S.length := by omega
      have hjl : j < l.length := by omega
      have hwm : w < m := by omega
      have hwS : w < S.length := by omega
      have hfs := filter_step (q := fun x => decide (x ≤ 999)) (show j < (l.take m).length by omega)
      rw [← hSt, List.getElem_take] at hfs
      have e1 : S[j]? = l[j]? := by
        have := congrArg (fun L : List Int => L[0]?) hSd
        simpa only [List.getElem?_drop, Nat.add_zero] using this
      rw [List.getElem?_eq_getElem hjl] at e1
      have e2 : S[j] = l[j] := (List.getElem?_eq_some_iff.1 e1).2
      have hdr : S.drop (j + 1) = l.drop (j + 1) := by
        have := congrArg (List.drop 1) hSd
        rw [List.drop_drop, List.drop_drop] at this; exact this
      have hset := fun v : Int => set_take (v := v) hwS
      have hdset : ∀ v : Int, (S.set w v).drop (j + 1) = l.drop (j + 1) := fun v => by
        rw [List.drop_set_of_lt (by omega)]; exact hdr
      generalize l[j] = v at *
      have c2 := marks1_c (G := G) v
      by_cases hv : 999 < v
      · rw [decide_eq_true hv] at c2
        rw [if_neg (by simp; omega), List.append_nil] at hfs
        have hs : True := trivial
        repeat' first | (with_reducible first | refine q01 ?_ | refine q04 ?_ | refine q11 ?_ | refine q12 ?_ | refine q14 ?_) | (refine CallE.pure (c2) ?_; try simp -dsimp [hlt, hw, hjS, e1, e2, hs]) | (with_reducible refine DT_regionE [0,1,4,5,6,7,12,19,29] ?_; simp -dsimp [hlt, hw, hjS, e1, e2, hs]) | (refine DT_cond rfl (fun h => ?_) (fun h => ?_) <;> (try simp only [nrm] at h) <;> (try exact Bool.noConfusion h))
        all_goals try simp -dsimp [hlt, hw, hjS, e1, e2, hs]
        all_goals try clear hs
        all_goals exact At.round ⟨(j + 1, w, S), by simp only; omega, by simp only; omega, hSl, hfs.symm, hdr⟩ (by simp only; omega) (Weak.of_keep [0,1,5,6] (by simp))
      · rw [decide_eq_false hv] at c2
        rw [if_pos (by simp; omega), ← hset v] at hfs
        have hs : True := trivial
        repeat' first | (with_reducible first | refine q01 ?_ | refine q04 ?_ | refine q11 ?_ | refine q12 ?_ | refine q14 ?_) | (refine CallE.pure (c2) ?_; try simp -dsimp [hlt, hw, hww, hjS, e1, e2, hwm, hwS, hs]) | (with_reducible refine DT_regionE [0,1,4,5,6,7,12,19,29] ?_; simp -dsimp [hlt, hw, hww, hjS, e1, e2, hwm, hwS, hs]) | (refine DT_cond rfl (fun h => ?_) (fun h => ?_) <;> (try simp only [nrm] at h) <;> (try exact Bool.noConfusion h))
        all_goals try simp -dsimp [hlt, hw, hww, hjS, e1, e2, hwm, hwS, hs]
        all_goals try clear hs
        all_goals exact At.round ⟨(j + 1, w + 1, S.set w v), by simp only; omega, by simp only; omega, by simpa using hSl, hfs.symm, hdset v⟩ (by simp only; omega) (Weak.of_keep [0,1,5,6] (by simp))
    · obtain rfl : j = m := by omega
      rw [List.take_of_length_le (by omega : (l.take j).length ≤ j)] at hSt
      have hw0 : w ≤ j := by omega
      have hwd : w = ((l.take j).filter fun x => decide (x ≤ 999)).length := by rw [← hSt]; simp; omega
      have hs : True := trivial
      repeat' first | (with_reducible first | refine q01 ?_ | refine q03 ?_ | refine q06 ?_ | refine q11 ?_ | refine q16 ?_ | refine q17 ?_) | (with_reducible refine At.fn_ret (by simp -dsimp [hlt, hw0, hSl, hm, hs]; exact rfl) ?_) | (with_reducible refine DT_regionE [0,1,4,5,6,7,12,19,29] ?_; simp -dsimp [hlt, hw0, hSl, hm, hs]) | (refine DT_cond rfl (fun h => ?_) (fun h => ?_) <;> (try simp only [nrm] at h) <;> (try exact Bool.noConfusion h))
      all_goals try simp -dsimp [hlt, hw0, hSl, hm, hs]
      all_goals try clear hs
      all_goals exact ⟨clrI S w (j - w), ⟨by rw [clrI_len (by omega)]; exact hSl, by rw [← hwd, ← hSt]; exact List.take_left' (by simp; omega)⟩, by rw [hwd], rfl⟩
end Go.Proofs
namespace Go.Proofs
open Go Go.Ab
variable {G : Nat → Option (List IC)}
theorem rawM_take {l : List Note} {k : Nat} (h : k < l.length) : rawM (l.take (k + 1)) = rawM (l.take k) ++ [l[k].frm, l[k].to + 1] := by
  unfold rawM
  rw [List.take_succ_eq_append_getElem h, List.flatMap_append]; simp
theorem rawM_len (l : List Note) : (rawM l).length = 2 * l.length + 1 := by
  unfold rawM
  have : ∀ l : List Note, (l.flatMap fun x => [x.frm, x.to + 1]).length = 2 * l.length := fun l => by
    induction l with
    | nil => rfl
    | cons a r ih => rw [List.flatMap_cons, List.length_append, ih, List.length_cons, List.length_cons, List.length_cons, List.length_nil]; omega
  rw [List.length_cons, this]
set_option maxHeartbeats 2000000 in
theorem marks_c (n : Notes) (hS : SortOk G) (hl : n.notes.length < 100) (hto : ∀ x ∈ n.notes, 1 ≤ x.to ∧ x.to ≤ 999) (objs : List DObj) : DCall Tryz.prog G 67 [.one (.im (fileI n))] objs (fun rr objs' => rr = isv (marksP n.notes) ∧ objs' = objs) := by
  refine DCall.frame ?_ (by simp) (by simp) objs
  refine DCall_intro Tryz.func67 rfl Tryz.ntmps67 (by simp) rfl ?_
  try simp only [iv]
  simp only [fileI]
  have hs : True := trivial
  repeat' first | (with_reducible first | refine q01 ?_ | refine q11 ?_ | refine q12 ?_) | (with_reducible refine DT_regionE [0,2,3,5,11,12,13,14] ?_; simp -dsimp [hs])
  all_goals try simp -dsimp [hs]
  all_goals try clear hs
  refine DT_loop (ι := { p : Nat × Nat // p.1 ≤ n.notes.length }) (fun p => ⟨32, [(3, .one (.vec 1 p.1.2 0 (rawM (n.notes.take p.1.1)).length)), (11, .one (.im (.sl (n.notes.map encNote)))), (12, iv (n.notes.length : Int)), (13, iv (p.1.1 : Int))], [.vec 1 [] 0 true, .vec 1 (ims ((rawM (n.notes.take p.1.1)).map encI)) p.1.2 false]⟩) (fun p => n.notes.length - p.1.1) ⟨(0, 0), by simp⟩ (Weak.of_keep [3,11,12,13] (by simp [rawM])) ?_
  rintro ⟨⟨k, g⟩, hk⟩
  simp only at hk
  simp only [iv]
  have hrl := rawM_len (n.notes.take k)
  rw [List.length_take] at hrl
  by_cases hlt : k < n.notes.length
  · have hw : IntKind.i64.wrap ((k : Int) + 1) = ((k + 1 : Nat) : Int) := i64w (by omega) (by omega)
    have hst := rawM_take hlt
    have hxt := hto n.notes[k] (List.getElem_mem hlt)
    generalize hx : n.notes[k] = x at *
    have hwt : IntKind.i64.wrap (x.to + 1) = x.to + 1 := i64w (by omega) (by omega)
    generalize rawM (n.notes.take k) = L at *
    have hs : True := trivial
    repeat' first | (with_reducible first | refine q01 ?_ | refine q04 ?_ | refine q11 ?_ | refine q12 ?_ | refine q14 ?_ | refine And.intro (by omega) ?_) | (with_reducible refine DT_regionE [0,2,3,5,11,12,13,14] ?_; simp -dsimp [hx, hlt, hw, hwt, hs]) | (refine DT_cond rfl (fun h => ?_) (fun h => ?_) <;> (try simp only [nrm] at h) <;> (try exact Bool.noConfusion h))
    all_goals try simp -dsimp [hx, hlt, hw, hwt, hs]
    all_goals try clear hs
    all_goals exact At.round ⟨(k + 1, g + 1), by simp only; omega⟩ (by simp only; omega) (Weak.of_drop [3,11,12,13] 2 (by simp) (by simp) (by simp [hst]))
  · obtain rfl : k = n.notes.length := by omega
    rw [List.take_length] at hrl ⊢
    have hE : marksP n.notes = (dedupI (isort (rawM n.notes))).filter fun m => decide (m ≤ 999) := rfl
    have c1 := hS (rawM n.notes) g 1 false (.inl rfl) (by omega)
    have hil := isort_len (rawM n.notes)
    have c2 := compact_c (G := G) (isort (rawM n.notes)) g (by omega)
    have hdl := dedupI_len (isort (rawM n.notes))
    rw [hil] at c2
    have hs : True := trivial
    repeat' first | (with_reducible first | refine q01 ?_ | refine q03 ?_ | refine q06 ?_ | refine q11 ?_ | refine q16 ?_ | refine q17 ?_) | (with_reducible refine At.fn_ret (by simp -dsimp [hlt, hs]; exact rfl) ?_) | (refine CallE.embed [1] (c1) ?_ ?_ ?_ ?_ ?_ ?_; (focus (simp [emb]; done)); (focus (simp; done)); (focus (simp; done)); (focus (simp; done)); (focus (refine emb_all ?_; simp [emb, embAll]; done)); try simp -dsimp [mergeO, emb, hlt, hs]) | (refine CallE.embed_ex [1] (c2) ?_ ?_ ?_ ?_ ?_ ?_; (focus (simp [emb]; done)); (focus (simp; done)); (focus (simp; done)); (focus (simp; done)); (focus (refine emb_all ?_; simp [emb, embAll]; done)); intro mma hmma; try simp -dsimp [mergeO, emb, hlt, hs]) | (refine CallE.embed_ex [1] (delFunc_c (G := G) mma (dedupI (isort (rawM n.notes))).length g (by omega) (by omega)) ?_ ?_ ?_ ?_ ?_ ?_; (focus (simp [emb]; done)); (focus (simp; done)); (focus (simp; done)); (focus (simp; done)); (focus (refine emb_all ?_; simp [emb, embAll]; done)); intro mm hmm; try simp -dsimp [mergeO, emb, hlt, hs]) | (with_reducible refine DT_regionE [0,2,3,5,11,12,13,14] ?_; simp -dsimp [hlt, hs]) | (refine DT_cond rfl (fun h => ?_) (fun h => ?_) <;> (try simp only [nrm] at h) <;> (try exact Bool.noConfusion h))
    all_goals try simp -dsimp [hlt, hs]
    all_goals try clear hs
    obtain ⟨ha1, ha2⟩ := hmma
    obtain ⟨hb1, hb2⟩ := hmm
    rw [ha2, ← hE] at hb2 ⊢
    have hml : (marksP n.notes).length ≤ mm.length := by rw [← hb2]; simp; omega
    have htk : (ims (mm.map encI)).take (marksP n.notes).length = ims ((marksP n.notes).map encI) := by rw [ims_take, ← List.map_take, hb2]
    simp [hml, htk]
end Go.Proofs
namespace Go.Ab
open Go
@[simp] theorem ims_getS (L : List Str) (k : Nat) : (ims (L.map encStr))[k]? = (L[k]?).map fun y => [DC.im (.raw (.int .i64 y.frm)), DC.im (.raw (.int .i64 y.to)), DC.im (.raw (.int .i64 y.letter))] := by
  simp only [ims, List.getElem?_map, Option.map_map]; rfl
@[simp] theorem ims_getSl (L : List Str) (k : Nat) (h : k < (ims (L.map encStr)).length) : (ims (L.map encStr))[k] = [DC.im (.raw (.int .i64 (L[k]'(by simpa [ims_length] using h)).frm)), DC.im (.raw (.int .i64 (L[k]'(by simpa [ims_length] using h)).to)), DC.im (.raw (.int .i64 (L[k]'(by simpa [ims_length] using h)).letter))] := by
  simp [ims]
@[simp] theorem ims_setS (L : List Str) (k : Nat) (a b c : Int) : (ims (L.map encStr)).set k [DC.im (.raw (.int .i64 a)), DC.im (.raw (.int .i64 b)), DC.im (.raw (.int .i64 c))] = ims ((L.set k ⟨a, b, c⟩).map encStr) := by
  simp only [ims, List.map_set, encStr, rI, List.map_cons, List.map_nil]
theorem set_last {L : List Str} {y z : Str} (h : L.getLast? = some y) : L.set (L.length - 1) z = L.dropLast ++ [z] := by
  have e := of_last h
  have hl : L.length - 1 = L.dropLast.length := by simp
  rw [hl]
  conv => lhs; rw [e]
  rw [List.dropLast_concat, List.set_append_right _ _ (Nat.le_refl _), Nat.sub_self]; rfl
theorem last_get {L : List Str} {y : Str} (h : L.getLast? = some y) : 0 < L.length ∧ L[L.length - 1]? = some y := by
  rw [List.getLast?_eq_getElem?] at h
  refine ⟨?_, h⟩
  have := lt_of_getElem? h; omega
end Go.Ab
namespace Go.Proofs
open Go Go.Ab
variable {G : Nat → Option (List IC)}
def strT (f : Int → Int) (M : List Int) (k : Nat) : List Str := strP f (M.take k)
theorem strT_succ {f : Int → Int} {M : List Int} {k : Nat} (h : k < M.length) : strT f M (k + 1) = stepP (strT f M k) M[k] (f M[k]) := by
  unfold strT strP
  rw [List.take_succ_eq_append_getElem h, List.foldl_append]; rfl
theorem stepP_len (L : List Str) (m c : Int) : (stepP L m c).length ≤ L.length + 1 := by
  unfold stepP
  split
  · simp
  · rename_i y h
    have hp := (last_get h).1
    split
    · omega
    · simp; omega
theorem strT_len (f : Int → Int) (M : List Int) : ∀ k, (strT f M k).length ≤ k
  | 0 => by simp [strT, strP]
  | k + 1 => by
    have ih := strT_len f M k
    by_cases h : k < M.length
    · rw [strT_succ h]
      have := stepP_len (strT f M k) M[k] (f M[k]); omega
    · have : strT f M (k + 1) = strT f M k := by unfold strT; rw [List.take_of_length_le (by omega), List.take_of_length_le (by omega)]
      rw [this]; omega
set_option maxHeartbeats 4000000 in
theorem nStretches_c (n : Notes) (s : List Int) (d : Int) (hG : sheetG G) (hN : noteG G) (hS : SortOk G) (hs : NSm n) (hsl : s.length < 1000) (objs : List DObj) : DCall Tryz.prog G 29 [notesv n, isv s, iv d] objs (fun rr objs' => rr = .tup [strv (if drawnE n s 1 d = 0 then strP (letF n s d) (marksP n.notes) else []), iv (drawnE n s 1 d)] ∧ objs' = objs) := by
  refine DCall.frame ?_ (by simp) (by simp) objs
  refine DCall_intro Tryz.func29 rfl Tryz.ntmps29 (by simp) rfl ?_
  try simp only [notesv, isv, iv]
  have c1 := drawn_c n s 1 d hG hN hS hs hsl
  by_cases h0 : drawnE n s 1 d = 0
  · rw [h0, show drawnR n s 1 d = .one (.im (fileI n)) by unfold drawnR; rw [if_pos h0]] at c1
    have ha : askedE n s 1 = 0 := Classical.byContradiction fun h => h (by unfold drawnE at h0; rw [if_pos h] at h0; exact h0)
    have hok := (notes_ok (asked_ok ha).1).2.2.1
    have hn16 := hs.2.1
    have c2 := marks_c n hS (by omega) (fun x hx => by have := nk3_of hok hx; omega)
    have c3 := fun m => force_c (G := G) n s [] m
    have hml := marks_len n.notes
    have hmm0 : ∀ m ∈ marksP n.notes, 1 ≤ m ∧ m ≤ 999 := fun m hm => ⟨by
      rcases (marks_mem.1 hm).1 with rfl | ⟨x, hx, rfl | rfl⟩
      · omega
      · exact (nk3_of hok hx).1
      · have := nk3_of hok hx; omega, (marks_mem.1 hm).2⟩
    rw [if_pos h0]
    simp only [fileI] at c1 c2
    simp only [frcObjs, frcCaps, fileI, iv, isv, bv, rI, List.map_cons, List.map_nil, encMB] at c3
    have hs : True := trivial
    repeat' first | (with_reducible first | refine q01 ?_ | refine q11 ?_ | refine q12 ?_ | refine q14 ?_) | (refine CallE.pure (c1) ?_; try simp -dsimp [hs]) | (refine CallE.pure (c2) ?_; try simp -dsimp [hs]) | (with_reducible refine DT_regionE [0,1,2,3,6,7,8,9,10,12,13,14,23,26,27,28,29,46,61] ?_; simp -dsimp [hs]) | (refine DT_cond rfl (fun h => ?_) (fun h => ?_) <;> (try simp only [nrm] at h) <;> (try exact Bool.noConfusion h))
    all_goals try simp -dsimp [hs]
    all_goals try clear hs
    have hE : strP (letF n s d) (marksP n.notes) = strT (letF n s d) (marksP n.notes) (marksP n.notes).length := by unfold strT; rw [List.take_length]
    rw [hE]
    generalize marksP n.notes = M at *
    refine DT_loop (ι := { p : Nat × Nat × Bool // p.1 ≤ M.length }) (fun p => ⟨74, [(1, isv s), (2, iv d), (8, .one (.im (.ip [.sl (n.reg.map encIssue), .sl (n.notes.map encNote), .sl ((nums n.reg).map encI), .sl ((isort (openL n.notes)).map encI)]))), (10, .one (.vec 2 p.1.2.1 0 (strT (letF n s d) M p.1.1).length)), (26, isv M), (27, iv (M.length : Int)), (28, iv (p.1.1 : Int))], [.row ((encNotes n).map .im), .vec 3 [] 0 true, .vec 3 (ims ((strT (letF n s d) M p.1.1).map encStr)) p.1.2.1 p.1.2.2]⟩) (fun p => M.length - p.1.1) ⟨(0, 0, true), by simp⟩ (Weak.of_keep [1,2,8,10,26,27,28] (by simp [strT, strP])) ?_
    rintro ⟨⟨k, g, nl⟩, hk⟩
    simp only at hk
    simp only [iv, isv]
    by_cases hlt : k < M.length
    · have hw : IntKind.i64.wrap ((k : Int) + 1) = ((k + 1 : Nat) : Int) := i64w (by omega) (by omega)
      have hst := strT_succ (f := letF n s d) hlt
      have hLl := strT_len (letF n s d) M k
      have hmk := hmm0 M[k] (List.getElem_mem hlt)
      generalize hx : M[k] = m at *
      have hwm : IntKind.i64.wrap (m - 1) = m - 1 := i64w (by omega) (by omega)
      have c4 := c3 m
      have c5 := by_c (G := G) n s [] m d (by omega) hsl (by simp) [] (ConsM.nil _ _ _ _)
      have hlf := byF_let n s m d
      simp only [frcObjs, frcCaps, fileI, iv, isv, bv, rI, List.map_cons, List.map_nil, encMB, notev, encNote, rB] at c5
      generalize letF n s d m = c at *
      generalize strT (letF n s d) M k = L at *
      cases hlast : L.getLast? with
      | none =>
        obtain rfl : L = [] := List.getLast?_eq_none_iff.1 hlast
        have hw1 : IntKind.i64.wrap (-1) = -1 := i64w (by omega) (by omega)
        simp only [stepP, List.getLast?_nil] at hst
        have hs : True := trivial
        repeat' first | (with_reducible first | refine q01 ?_ | refine q04 ?_ | refine q11 ?_ | refine q12 ?_ | refine q14 ?_) | (refine CallE.embed [] (c4) ?_ ?_ ?_ ?_ ?_ ?_; (focus (simp [emb]; done)); (focus (simp; done)); (focus (simp; done)); (focus (simp; done)); (focus (refine emb_all ?_; simp [emb, embAll]; done)); try simp -dsimp [mergeO, emb, hx, hlt, hw, hlf, hw1, hs]) | (refine CallE.embed_ex [3,4,5,6,7,8,9] (c5) ?_ ?_ ?_ ?_ ?_ ?_; (focus (simp [emb]; done)); (focus (simp; done)); (focus (simp; done)); (focus (simp; done)); (focus (refine emb_all ?_; simp [emb, embAll]; done)); intro mm hmm; try simp -dsimp [mergeO, emb, hx, hlt, hw, hlf, hw1, hs]) | (with_reducible refine DT_regionE [0,1,2,3,6,7,8,9,10,12,13,14,23,26,27,28,29,46,61] ?_; simp -dsimp [hx, hlt, hw, hlf, hw1, hs]) | (refine DT_cond rfl (fun h => ?_) (fun h => ?_) <;> (try simp only [nrm] at h) <;> (try exact Bool.noConfusion h))
        all_goals try simp -dsimp [hx, hlt, hw, hlf, hw1, hs]
        all_goals try clear hs
        exact At.round ⟨(k + 1, g + 1, false), by simp only; omega⟩ (by simp only; omega) (Weak.of_drop [1,2,8,10,26,27,28] 3 (by simp) (by simp) (by simp [hst]))
      | some y =>
        obtain ⟨hp, hlg⟩ := last_get hlast
        simp only [stepP, hlast] at hst
        have hwl : IntKind.i64.wrap ((L.length : Int) - 1) = ((L.length - 1 : Nat) : Int) := by rw [i64w (by omega) (by omega)]; omega
        have hl1 : L.length - 1 < L.length := by omega
        have hLy : L[L.length - 1] = y := (List.getElem?_eq_some_iff.1 hlg).2
        have hsl2 := set_last (z := ⟨y.frm, m - 1, y.letter⟩) hlast
        have hdl : L.dropLast.length = L.length - 1 := by simp
        have htk : List.take L.length (ims ((L.map encStr).set (L.length - 1) (encStr ⟨y.frm, m - 1, y.letter⟩))) = ims (L.map encStr).dropLast ++ [(encStr ⟨y.frm, m - 1, y.letter⟩).map .im] := by
          have := congrArg (List.map encStr) hsl2
          rw [List.map_set, List.map_append, List.map_dropLast] at this
          rw [List.take_of_length_le (by simp [ims_length]), this, ims_append]; rfl
        by_cases he : (⟨y.frm, 999, c⟩ : Str) = y
        · rw [if_pos he] at hst
          have hs : True := trivial
          repeat' first | (with_reducible first | refine q01 ?_ | refine q03 ?_ | refine q04 ?_ | refine q06 ?_ | refine q11 ?_ | refine q12 ?_ | refine q14 ?_ | refine q16 ?_ | refine And.intro (by omega) ?_) | (refine CallE.embed [] (c4) ?_ ?_ ?_ ?_ ?_ ?_; (focus (simp [emb]; done)); (focus (simp; done)); (focus (simp; done)); (focus (simp; done)); (focus (refine emb_all ?_; simp [emb, embAll]; done)); try simp -dsimp [mergeO, emb, hx, hlt, hw, hlf, hwl, hlg, hl1, hLy, hs]) | (refine CallE.embed_ex [3,4,5,6,7,8,9] (c5) ?_ ?_ ?_ ?_ ?_ ?_; (focus (simp [emb]; done)); (focus (simp; done)); (focus (simp; done)); (focus (simp; done)); (focus (refine emb_all ?_; simp [emb, embAll]; done)); intro mm hmm; try simp -dsimp [mergeO, emb, hx, hlt, hw, hlf, hwl, hlg, hl1, hLy, hs]) | (refine DT_regionM (id := 11) (nt := 74) 15 [0,1,2,3,6,7,8,9,10,12,13,14,23,26,27,28,29,46,61] mixed rfl (by kernel_rfl) ?_; simp -dsimp [hx, hlt, hw, hlf, hwl, hlg, hl1, hLy, hs]) | (with_reducible refine DT_regionE [0,1,2,3,6,7,8,9,10,12,13,14,23,26,27,28,29,46,61] ?_; simp -dsimp [hx, hlt, hw, hlf, hwl, hlg, hl1, hLy, hs]) | (refine DT_cond rfl (fun h => ?_) (fun h => ?_) <;> (try simp only [nrm] at h) <;> (try exact Bool.noConfusion h))
          all_goals try simp -dsimp [hx, hlt, hw, hlf, hwl, hlg, hl1, hLy, hs]
          all_goals try clear hs
          · exact At.round ⟨(k + 1, g, nl), by simp only; omega⟩ (by simp only; omega) (Weak.of_drop [1,2,8,10,26,27,28] 3 (by simp) (by simp) (by simp [hst]))
          · have h1 : 999 = y.to := congrArg Str.to he
            have h2 : c = y.letter := congrArg Str.letter he
            have h3 : ¬ 999 = y.to ∨ ¬ c = y.letter := by assumption
            omega
        · rw [if_neg he] at hst
          have hs : True := trivial
          repeat' first | (with_reducible first | refine q01 ?_ | refine q03 ?_ | refine q04 ?_ | refine q06 ?_ | refine q11 ?_ | refine q12 ?_ | refine q14 ?_ | refine q16 ?_ | refine And.intro (by omega) ?_) | (refine CallE.embed [] (c4) ?_ ?_ ?_ ?_ ?_ ?_; (focus (simp [emb]; done)); (focus (simp; done)); (focus (simp; done)); (focus (simp; done)); (focus (refine emb_all ?_; simp [emb, embAll]; done)); try simp -dsimp [mergeO, emb, hx, hlt, hw, hlf, hwl, hlg, hl1, hLy, hwm, hs]) | (refine CallE.embed_ex [3,4,5,6,7,8,9] (c5) ?_ ?_ ?_ ?_ ?_ ?_; (focus (simp [emb]; done)); (focus (simp; done)); (focus (simp; done)); (focus (simp; done)); (focus (refine emb_all ?_; simp [emb, embAll]; done)); intro mm hmm; try simp -dsimp [mergeO, emb, hx, hlt, hw, hlf, hwl, hlg, hl1, hLy, hwm, hs]) | (refine DT_regionM (id := 11) (nt := 74) 15 [0,1,2,3,6,7,8,9,10,12,13,14,23,26,27,28,29,46,61] mixed rfl (by kernel_rfl) ?_; simp -dsimp [hx, hlt, hw, hlf, hwl, hlg, hl1, hLy, hwm, hs]) | (with_reducible refine DT_regionE [0,1,2,3,6,7,8,9,10,12,13,14,23,26,27,28,29,46,61] ?_; simp -dsimp [hx, hlt, hw, hlf, hwl, hlg, hl1, hLy, hwm, hs]) | (refine DT_cond rfl (fun h => ?_) (fun h => ?_) <;> (try simp only [nrm] at h) <;> (try exact Bool.noConfusion h))
          all_goals try simp -dsimp [hx, hlt, hw, hlf, hwl, hlg, hl1, hLy, hwm, hs]
          all_goals try clear hs
          · have h3 : 999 = y.to ∧ c = y.letter := by assumption
            exact absurd (show (⟨y.frm, 999, c⟩ : Str) = y by rw [h3.1, h3.2]) he
          · exact At.round ⟨(k + 1, g + 1, false), by simp only; omega⟩ (by simp only; omega) (Weak.of_drop [1,2,8,10,26,27,28] 3 (by simp) (by simp) (by simp [hst, hsl2, hdl]; simp only [encStr, rI] at htk; exact ⟨by omega, by rw [htk]; simp⟩))
    · obtain rfl : k = M.length := by omega
      have hs : True := trivial
      repeat' first | (with_reducible first | refine q01 ?_ | refine q03 ?_ | refine q06 ?_ | refine q11 ?_ | refine q16 ?_ | refine q17 ?_) | (with_reducible refine At.fn_ret (by simp -dsimp [hlt, hs]; exact rfl) ?_) | (with_reducible refine DT_regionE [0,1,2,3,6,7,8,9,10,12,13,14,23,26,27,28,29,46,61] ?_; simp -dsimp [hlt, hs]) | (refine DT_cond rfl (fun h => ?_) (fun h => ?_) <;> (try simp only [nrm] at h) <;> (try exact Bool.noConfusion h))
      all_goals try simp -dsimp [hlt, hs]
      all_goals try clear hs
      all_goals simp [h0]
  · rw [show drawnR n s 1 d = .one (.im (.raw (.pointer none))) by unfold drawnR; rw [if_neg h0]] at c1
    have hs : True := trivial
    repeat' first | (with_reducible first | refine q01 ?_ | refine q02 ?_ | refine q11 ?_ | refine q17 ?_) | (with_reducible refine At.fn_ret (by simp -dsimp [h0, hs]; exact rfl) ?_) | (refine CallE.pure (c1) ?_; try simp -dsimp [h0, hs]) | (with_reducible refine DT_regionE [0,1,2,3,6,7,8,9,10,12,13,14,23,26,27,28,29,46,61] ?_; simp -dsimp [h0, hs]) | (refine DT_cond rfl (fun h => ?_) (fun h => ?_) <;> (try simp only [nrm] at h) <;> (try exact Bool.noConfusion h))
    all_goals try simp -dsimp [h0, hs]
    all_goals try clear hs
    all_goals simp [h0]
end Go.Proofs
namespace Go.Proofs
open Go Go.Ab
variable {G : Nat → Option (List IC)}
def strd (x : Str) : DV := .agg ((encStr x).map .im)
theorem indexFunc_str (l : List Str) (p : Str → Bool) (k : Nat) (caps : List DC) (objs : List DObj) (hok : CallOk Tryz.prog k) (hf : ∀ x ∈ l, DCall Tryz.prog G k (strd x :: caps.map .one) objs (fun d o => d = bv (p x) ∧ o = objs)) (hl : l.length < 1000000) : DCall Tryz.prog G 68 [.one (.im (.sl (l.map encStr))), .one (.fn (.func k) caps)] objs (fun d o => d = iv (fidx p l) ∧ o = objs) := by
  refine DCall_intro Tryz.func68 rfl Tryz.ntmps68 (by simp) rfl ?_
  have hs : True := trivial
  repeat' first | (with_reducible first | refine q01 ?_ | refine q11 ?_ | refine q12 ?_) | (with_reducible refine DT_regionE [0,1,4,5,7,8,9,16] ?_; simp -dsimp [hs])
  all_goals try simp -dsimp [hs]
  all_goals try clear hs
  refine DT_loop (ι := { k : Nat // k ≤ l.length ∧ ∀ j x, j < k → l[j]? = some x → p x = false }) (fun i => ⟨19, [(0, .one (.im (.sl (l.map encStr)))), (1, .one (.fn (.func k) caps)), (7, iv (l.length : Int)), (8, iv (i.1 : Int))], objs⟩) (fun i => l.length - i.1) ⟨0, by simp⟩ (Weak.of_keep [0,1,7,8] (by simp)) ?_
  rintro ⟨i, hi, hno⟩
  simp only [iv]
  by_cases hlt : i < l.length
  · have hx : l[i]? = some l[i] := by simp [hlt]
    have hw : IntKind.i64.wrap ((i : Int) + 1) = ((i + 1 : Nat) : Int) := i64w (by omega) (by omega)
    have hc := hf l[i] (by simp)
    simp only [strd, encStr, List.map_cons, List.map_nil, bv, rI] at hc
    have hs : True := trivial
    repeat' first | (with_reducible first | refine q01 ?_ | refine q02 ?_ | refine q03 ?_ | refine q04 ?_ | refine q05 ?_ | refine q06 ?_ | refine q11 ?_ | refine q12 ?_ | refine q14 ?_ | refine q16 ?_ | refine q17 ?_ | refine And.intro (by omega) ?_) | (with_reducible refine At.fn_ret (by simp -dsimp [hx, hw, hok, hs]; exact rfl) ?_) | (refine CallE.here hc ?_; try simp -dsimp [hx, hw, hok, hs]) | (with_reducible refine DT_regionE [0,1,4,5,7,8,9,16] ?_; simp -dsimp [hx, hw, hok, hs]) | (refine DT_cond rfl (fun h => ?_) (fun h => ?_) <;> (try simp only [nrm] at h) <;> (try exact Bool.noConfusion h)) | with_reducible refine And.intro ?_ ?_
    all_goals try simp -dsimp [hx, hw, hok, hs]
    all_goals try clear hs
    all_goals try omega
    · exact (fidx_yes hx (by assumption) hno).symm
    · exact At.round ⟨i + 1, by omega, fun j x hj hjx => by
        by_cases e : j = i
        · subst e; rw [hx] at hjx; cases hjx; assumption
        · exact hno j x (by omega) hjx⟩ (by simp; omega) (Weak.of_keep [0,1,7,8] (by simp))
  · have hs : True := trivial
    repeat' first | (with_reducible first | refine q01 ?_ | refine q03 ?_ | refine q06 ?_ | refine q11 ?_ | refine q12 ?_ | refine q14 ?_ | refine q16 ?_ | refine q17 ?_) | (with_reducible refine At.fn_ret (by simp -dsimp [hs]; exact rfl) ?_) | (with_reducible refine DT_regionE [0,1,4,5,7,8,9,16] ?_; simp -dsimp [hs]) | (refine DT_cond rfl (fun h => ?_) (fun h => ?_) <;> (try simp only [nrm] at h) <;> (try exact Bool.noConfusion h)) | with_reducible refine And.intro ?_ ?_
    all_goals try simp -dsimp [hs]
    all_goals try clear hs
    all_goals try omega
    exact (fidx_no fun j x hjx => hno j x (by have := lt_of_getElem? hjx; omega) hjx).symm
def firstV (L : List Str) (lt : Int) : Int := match L.find? (fun x => decide (x.letter = lt)) with | some x => x.frm | none => 0
def firstE (L : List Str) (lt : Int) : Int := if (L.any fun x => decide (x.letter = lt)) = true then 0 else 6
theorem first_case {L : List Str} {lt : Int} : (fidx (fun x => decide (x.letter = lt)) L = -1 ∧ firstV L lt = 0 ∧ firstE L lt = 6) ∨ ∃ (i : Nat) (h : i < L.length), fidx (fun x => decide (x.letter = lt)) L = (i : Int) ∧ firstV L lt = L[i].frm ∧ firstE L lt = 0 := by
  have hn := fidx_nonneg (fun x : Str => decide (x.letter = lt)) L
  unfold fidx at *
  cases h : L.findIdx? fun x => decide (x.letter = lt) with
  | none =>
    refine .inl ⟨rfl, ?_, ?_⟩
    · have : L.find? (fun x => decide (x.letter = lt)) = none := by
        rw [List.find?_eq_none]
        exact fun x hx => by simpa using (List.findIdx?_eq_none_iff.1 h) x hx
      rw [firstV, this]
    · rw [h] at hn
      rw [firstE, ← hn]; rfl
  | some i =>
    rw [List.findIdx?_eq_some_iff_getElem] at h
    obtain ⟨hlt, hp, hno⟩ := h
    refine .inr ⟨i, hlt, rfl, ?_, ?_⟩
    · have : L.find? (fun x => decide (x.letter = lt)) = some L[i] := by
        rw [List.find?_eq_some_iff_getElem]
        exact ⟨hp, i, hlt, rfl, fun j hj => by simpa using hno j hj⟩
      rw [firstV, this]
    · rw [firstE, if_pos]
      exact List.any_eq_true.2 ⟨L[i], List.getElem_mem hlt, hp⟩
theorem first1_c (n : Notes) (d lt : Int) (y : Str) : DCall Tryz.prog G 69 (strd y :: [DC.ptr 1 0].map .one) [.row ((encNotes n).map .im), .row [.im (rI d), .im (rI lt)]] (fun r o => r = bv (decide (y.letter = lt)) ∧ o = [.row ((encNotes n).map .im), .row [.im (rI d), .im (rI lt)]]) := by
  refine DCall.drop ?_
  refine DCall_intro Tryz.func69 rfl Tryz.ntmps69 (by simp) rfl ?_
  simp only [strd, encStr, encNotes, rI]
  have hs : True := trivial
  repeat' first | (with_reducible first | refine q01 ?_ | refine q11 ?_ | refine q17 ?_) | (with_reducible refine At.fn_ret (by simp -dsimp [hs]; exact rfl) ?_) | (with_reducible refine DT_regionE [0,1,2,3] ?_; simp -dsimp [hs]) | with_reducible refine And.intro ?_ ?_
  all_goals try simp -dsimp [hs]
  all_goals try clear hs
def strL (n : Notes) (s : List Int) (d : Int) : List Str := if drawnE n s 1 d = 0 then strP (letF n s d) (marksP n.notes) else []
theorem strL_len (n : Notes) (s : List Int) (d : Int) : (strL n s d).length ≤ 2 * n.notes.length + 1 := by
  unfold strL
  split
  · have h1 := strT_len (letF n s d) (marksP n.notes) (marksP n.notes).length
    have h2 := marks_len n.notes
    unfold strT at h1
    rw [List.take_length] at h1; omega
  · simp
def firE (n : Notes) (s : List Int) (d lt : Int) : Int := if drawnE n s 1 d ≠ 0 then drawnE n s 1 d else firstE (strL n s d) lt
def firV (n : Notes) (s : List Int) (d lt : Int) : Int := if drawnE n s 1 d ≠ 0 then 0 else firstV (strL n s d) lt
set_option maxHeartbeats 1000000 in
theorem nFirst_c (n : Notes) (s : List Int) (d lt : Int) (hG : sheetG G) (hN : noteG G) (hS : SortOk G) (hs : NSm n) (hsl : s.length < 1000) (objs : List DObj) : DCall Tryz.prog G 30 [notesv n, isv s, refv d lt] objs (fun rr objs' => rr = .tup [iv (firV n s d lt), iv (firE n s d lt)] ∧ objs' = objs) := by
  refine DCall.frame ?_ (by simp) (by simp) objs
  refine DCall_intro Tryz.func30 rfl Tryz.ntmps30 (by simp) rfl ?_
  try simp only [notesv, isv, refv]
  have c1 := nStretches_c n s d hG hN hS hs hsl
  rw [← strL] at c1
  have hn16 := hs.2.1
  have hll := strL_len n s d
  by_cases h0 : drawnE n s 1 d = 0
  · rw [h0] at c1
    have hE : firE n s d lt = firstE (strL n s d) lt := by unfold firE; rw [if_neg (by simp [h0])]
    have hV : firV n s d lt = firstV (strL n s d) lt := by unfold firV; rw [if_neg (by simp [h0])]
    generalize strL n s d = L at *
    have c2 := indexFunc_str (G := G) L (fun x => decide (x.letter = lt)) 69 [.ptr 1 0] [.row ((encNotes n).map .im), .row [.im (rI d), .im (rI lt)]] (by simp) (fun y _ => first1_c n d lt y) (by omega)
    simp only [encNotes, rI, List.map_cons, List.map_nil] at c2
    rcases first_case (L := L) (lt := lt) with ⟨hf, hv, he⟩ | ⟨i, hi, hf, hv, he⟩
    · rw [hf] at c2
      rw [hv] at hV; rw [he] at hE
      have hs : True := trivial
      repeat' first | (with_reducible first | refine q01 ?_ | refine q02 ?_ | refine q11 ?_ | refine q14 ?_ | refine q17 ?_) | (with_reducible refine At.fn_ret (by simp -dsimp [hs]; exact rfl) ?_) | (refine CallE.pure (c1) ?_; try simp -dsimp [hs]) | (refine CallE.here (c2) ?_; try simp -dsimp [hs]) | (with_reducible refine DT_regionE [0,1,2,3,5,6,7,8,9,10,20,26] ?_; simp -dsimp [hs]) | (refine DT_cond rfl (fun h => ?_) (fun h => ?_) <;> (try simp only [nrm] at h) <;> (try exact Bool.noConfusion h))
      all_goals try simp -dsimp [hs]
      all_goals try clear hs
      all_goals simp [hE, hV]
    · rw [hf] at c2
      rw [hv] at hV; rw [he] at hE
      generalize hy : L[i] = y at *
      have hi0 : ¬ (i : Int) < 0 := by omega
      have hs : True := trivial
      repeat' first | (with_reducible first | refine q01 ?_ | refine q11 ?_ | refine q14 ?_ | refine q17 ?_) | (with_reducible refine At.fn_ret (by simp -dsimp [hi, hy, hi0, hs]; exact rfl) ?_) | (refine CallE.pure (c1) ?_; try simp -dsimp [hi, hy, hi0, hs]) | (refine CallE.here (c2) ?_; try simp -dsimp [hi, hy, hi0, hs]) | (with_reducible refine DT_regionE [0,1,2,3,5,6,7,8,9,10,20,26] ?_; simp -dsimp [hi, hy, hi0, hs]) | (refine DT_cond rfl (fun h => ?_) (fun h => ?_) <;> (try simp only [nrm] at h) <;> (try exact Bool.noConfusion h))
      all_goals try simp -dsimp [hi, hy, hi0, hs]
      all_goals try clear hs
      all_goals simp [hE, hV]
  · have hE : firE n s d lt = drawnE n s 1 d := by unfold firE; rw [if_pos h0]
    have hV : firV n s d lt = 0 := by unfold firV; rw [if_pos h0]
    have hs : True := trivial
    repeat' first | (with_reducible first | refine q01 ?_ | refine q02 ?_ | refine q11 ?_ | refine q17 ?_) | (with_reducible refine At.fn_ret (by simp -dsimp [h0, hs]; exact rfl) ?_) | (refine CallE.pure (c1) ?_; try simp -dsimp [h0, hs]) | (with_reducible refine DT_regionE [0,1,2,3,5,6,7,8,9,10,20,26] ?_; simp -dsimp [h0, hs]) | (refine DT_cond rfl (fun h => ?_) (fun h => ?_) <;> (try simp only [nrm] at h) <;> (try exact Bool.noConfusion h))
    all_goals try simp -dsimp [h0, hs]
    all_goals try clear hs
    all_goals simp [hE, hV, h0]
end Go.Proofs
namespace Go.Proofs
open Go Go.Ab
end Go.Proofs
namespace Go.Proofs
open Go Go.Ab
theorem lettersK_at {n : Notes} {t : List Int} {m d : Int} {i : Nat} (hi : (nums n.reg)[i]? = some d) : (lettersK n t m)[i]? = some (letF n t d m) := by
  unfold lettersK
  rw [List.getElem?_map, hi]; rfl
theorem stepS_at {a b : List Int} {i : Nat} {x y : Int} (h1 : a[i]? = some x) (h2 : b[i]? = some y) : (stepS a b)[i]? = some (if y = x then x else 0) := by
  unfold stepS
  rw [List.getElem?_zipWith, h1, h2]
theorem sure_at {n : Notes} {m d : Int} {O : List Int} {i : Nat} (hi : (nums n.reg)[i]? = some d) (hr : ∀ t, 1 ≤ letF n t d m) : ∀ k, (sureTo n m O k)[i]? = some (if (trTo O k).all (fun t => decide (letF n t d m = letF n [] d m)) = true then letF n [] d m else 0)
  | 0 => by
    rw [sureTo_zero, lettersK_at hi]; simp [trTo]
  | k + 1 => by
    rw [sureTo_succ, stepS_at (sure_at hi hr k) (lettersK_at hi), trTo_succ, List.all_append]
    have h1 := hr (selN O k O.length)
    cases h : (trTo O k).all (fun t => decide (letF n t d m = letF n [] d m))
    · simp only [Bool.false_and, Bool.false_eq_true, if_false]
      rw [if_neg (by omega)]
    · by_cases e : letF n (selN O k O.length) d m = letF n [] d m
      · simp [e]
      · simp [e]
theorem dedup_one {L : List Int} {c : Int} (hc : c ∈ L) : (dedupI (isort L)).length = 1 ↔ ∀ x ∈ L, x = c := by
  have hm : ∀ x, x ∈ dedupI (isort L) ↔ x ∈ L := fun x => by rw [dedupI_mem, isort_mem]
  have hs := dedupI_lt _ (isort_sorted L)
  constructor
  · intro h x hx
    obtain ⟨y, hy⟩ := List.length_eq_one_iff.1 h
    have h1 := (hm x).2 hx
    have h2 := (hm c).2 hc
    rw [hy] at h1 h2
    rw [List.mem_singleton.1 h1, List.mem_singleton.1 h2]
  · intro h
    have h0 : dedupI (isort L) ≠ [] := fun e => by
      have := (hm c).2 hc
      rw [e] at this; cases this
    match hd : dedupI (isort L), h0 with
    | [y], _ => rfl
    | y :: z :: r, _ =>
      exfalso
      rw [hd] at hs hm
      have h1 := h y ((hm y).1 (by simp))
      have h2 := h z ((hm z).1 (by simp))
      have := (List.pairwise_cons.1 hs).1 z (by simp)
      omega
theorem dedup_count {L K : List Int} (hK : K.Nodup) (h : ∀ x, x ∈ K ↔ x ∈ L) : K.length = (dedupI (isort L)).length := by
  have h1 : isort K = dedupI (isort L) := strict_eq (isort_strict hK) (dedupI_lt _ (isort_sorted L)) fun x => by rw [isort_mem, dedupI_mem, isort_mem, h]
  rw [← h1, isort_len]
end Go.Proofs
namespace Go.Proofs
open Go Go.Ab
def strip (l : List Note) : List Note := l.map fun x => sgn x 0
theorem strip_at (l : List Note) (i : Nat) : (strip l)[i]? = (l[i]?).map fun x => sgn x 0 := by simp [strip]
theorem strip_set (l : List Note) (i : Nat) (v : Int) : strip (setSg l i v) = strip l := by
  unfold setSg
  split
  · rename_i x hx
    refine List.ext_getElem? fun j => ?_
    rw [strip_at, strip_at]
    by_cases e : i = j
    · subst e
      have hi := lt_of_getElem? hx
      rw [List.getElem?_set_self hi, hx]; rfl
    · rw [List.getElem?_set_ne e]
  · rfl
theorem nk6_strip (l : List Note) (i : Nat) (x : Note) : nk6 l i x = nk6 (strip l) i (sgn x 0) := by
  simp only [nk6, strip, ← List.map_take, List.any_map]; rfl
theorem nk7_strip (l : List Note) (i : Nat) (x : Note) : nk7 l i x = nk7 (strip l) i (sgn x 0) := by
  simp only [nk7, strip, ← List.map_take, List.any_map]; rfl
theorem nk8_strip (l : List Note) (i : Nat) (x : Note) : nk8 l i x = nk8 (strip l) i (sgn x 0) := by
  unfold nk8
  split
  · rfl
  · rw [strip_at]
    cases l[i - 1]? <;> rfl
theorem allOk_set {n : Notes} (hok : allOk n) {v : Int} (hv : 0 ≤ v ∧ v ≤ 2) (i : Nat) : allOk ⟨n.reg, setSg n.notes i v⟩ := by
  intro j y hy
  have hs : (strip (setSg n.notes i v))[j]? = some (sgn y 0) := by rw [strip_at]; rw [show (setSg n.notes i v)[j]? = some y from hy]; rfl
  rw [strip_set, strip_at, Option.map_eq_some_iff] at hs
  obtain ⟨x, hx, hxy⟩ := hs
  have h := hok j x hx
  have h2 : y.signed ≤ 2 := by
    have hx2 : x.signed ≤ 2 := by
      simp only [nkA, nk2, Bool.and_eq_true, decide_eq_true_eq] at h
      omega
    have hy' : (setSg n.notes i v)[j]? = some y := hy
    unfold setSg at hy'
    split at hy'
    · rename_i z hz
      by_cases e : i = j
      · subst e
        rw [List.getElem?_set_self (lt_of_getElem? hz)] at hy'
        rw [← Option.some.inj hy']; exact hv.2
      · rw [List.getElem?_set_ne e, hx] at hy'
        rw [← Option.some.inj hy']; exact hx2
    · rw [hx] at hy'
      rw [← Option.some.inj hy']; exact hx2
  simp only [nkA, Bool.and_eq_true] at h ⊢
  obtain ⟨⟨⟨⟨⟨⟨⟨a1, a2⟩, a3⟩, a4⟩, a5⟩, a6⟩, a7⟩, a8⟩ := h
  have e1 : nk1 y = nk1 x := by show nk1 (sgn y 0) = nk1 (sgn x 0); rw [hxy]
  have e3 : nk3 y = nk3 x := by show nk3 (sgn y 0) = nk3 (sgn x 0); rw [hxy]
  have e4 : nk4 n.reg y = nk4 n.reg x := by show nk4 n.reg (sgn y 0) = nk4 n.reg (sgn x 0); rw [hxy]
  have e5 : nk5 y = nk5 x := by show nk5 (sgn y 0) = nk5 (sgn x 0); rw [hxy]
  have ew : y.ways = x.ways := by show (sgn y 0).ways = (sgn x 0).ways; rw [hxy]
  refine ⟨⟨⟨⟨⟨⟨⟨by rw [e1]; exact a1, ?_⟩, by rw [e3]; exact a3⟩, by rw [e4]; exact a4⟩, by rw [e5]; exact a5⟩, ?_⟩, ?_⟩, ?_⟩
  · simp only [nk2, Bool.and_eq_true, decide_eq_true_eq] at a2 ⊢
    rw [ew]; exact ⟨h2, a2.2⟩
  · show nk6 (setSg n.notes i v) j y = true
    rw [nk6_strip, strip_set, ← hxy, ← nk6_strip]; exact a6
  · show nk7 (setSg n.notes i v) j y = true
    rw [nk7_strip, strip_set, ← hxy, ← nk7_strip]; exact a7
  · show nk8 (setSg n.notes i v) j y = true
    rw [nk8_strip, strip_set, ← hxy, ← nk8_strip]; exact a8
end Go.Proofs
namespace Go.Proofs
open Go Go.Ab
theorem setSg_at {l : List Note} {i j : Nat} {v : Int} {y : Note} (h : (setSg l i v)[j]? = some y) : ∃ x, l[j]? = some x ∧ y = if i = j then sgn x v else x := by
  unfold setSg at h
  split at h
  · rename_i z hz
    by_cases e : i = j
    · subst e
      rw [List.getElem?_set_self (lt_of_getElem? hz)] at h
      exact ⟨z, hz, by rw [if_pos rfl]; exact (Option.some.inj h).symm⟩
    · rw [List.getElem?_set_ne e] at h
      exact ⟨y, h, by rw [if_neg e]⟩
  · rename_i hz
    refine ⟨y, h, ?_⟩
    rw [if_neg]
    intro e; subst e; rw [h] at hz; cases hz
theorem setSg_get {l : List Note} {i j : Nat} {v : Int} {x : Note} (h : l[j]? = some x) : (setSg l i v)[j]? = some (if i = j then sgn x v else x) := by
  cases hy : (setSg l i v)[j]? with
  | none =>
    have h1 := lt_of_getElem? h
    rw [List.getElem?_eq_none_iff, setSg_len] at hy; omega
  | some y =>
    obtain ⟨z, h1, h2⟩ := setSg_at hy
    rw [h] at h1; cases h1; rw [h2]
theorem open_set {n : Notes} (hok : allOk n) {i : Nat} {x : Note} (hx : n.notes[i]? = some x) {v : Int} (hv : v ≠ 1) (a : Int) : a ∈ openL (setSg n.notes i v) ↔ a ∈ openL n.notes ∧ a ≠ x.number := by
  rw [open_mem, open_mem]
  constructor
  · rintro ⟨k, y, h1, h2, h3⟩
    obtain ⟨z, h4, h5⟩ := setSg_at h1
    by_cases e : i = k
    · rw [if_pos e] at h5
      subst h5
      exact absurd h3 (by simpa [sgn] using hv)
    · rw [if_neg e] at h5
      subst h5
      refine ⟨⟨k, y, h4, h2, h3⟩, fun h => e ?_⟩
      have h6 := settleI_at hok hx
      have h7 := settleI_at hok h4
      rw [h2, h, h6] at h7; exact h7
  · rintro ⟨⟨k, y, h1, h2, h3⟩, h4⟩
    have e : i ≠ k := fun e => by subst e; rw [hx] at h1; cases h1; exact h4 h2.symm
    exact ⟨k, y, by rw [setSg_get h1, if_neg e], h2, h3⟩
theorem open_list {n : Notes} (hok : allOk n) {i : Nat} {x : Note} (hx : n.notes[i]? = some x) {v : Int} (hv : 0 ≤ v ∧ v ≤ 2) (h1 : v ≠ 1) : isort (openL (setSg n.notes i v)) = (isort (openL n.notes)).filter fun a => decide (a ≠ x.number) := by
  refine strict_eq (isort_strict ?_) ((isort_strict (openL_nodup hok)).filter _) fun a => ?_
  · exact openL_nodup (n := ⟨n.reg, setSg n.notes i v⟩) (allOk_set hok hv i)
  · rw [isort_mem, open_set hok hx h1, List.mem_filter, isort_mem]; simp
end Go.Proofs
namespace Go.Proofs
open Go Go.Ab
theorem selN_sub (N : List Int) (s : Nat) : ∀ k, k ≤ N.length → (selN N s k).Sublist (N.take k)
  | 0, _ => by simp [selN]
  | k + 1, h => by
    have hk : k < N.length := by omega
    rw [selN_succ, List.take_succ_eq_append_getElem hk, show N.getD k 0 = N[k] by simp [hk]]
    refine (selN_sub N s k (by omega)).append ?_
    split
    · exact List.Sublist.refl _
    · simp
theorem truths_mem {O : List Int} (hO : O.Pairwise (· < ·)) {t : List Int} : t ∈ truthsL O ↔ t.Sublist O := by
  unfold truthsL trTo
  rw [List.mem_map]
  constructor
  · rintro ⟨s, _, rfl⟩
    have := selN_sub O s O.length (Nat.le_refl _)
    rwa [List.take_length] at this
  · intro ht
    obtain ⟨s, h1, h2⟩ := mask_ex (fun i => decide (O.getD i 0 ∈ t)) O.length
    refine ⟨s, by simpa using h1, ?_⟩
    have hs : (selN O s O.length).Sublist O := by
      have := selN_sub O s O.length (Nat.le_refl _)
      rwa [List.take_length] at this
    refine strict_eq (hO.sublist hs) (hO.sublist ht) fun x => ?_
    rw [selN_mem (Nat.le_refl _)]
    constructor
    · rintro ⟨i, hi, hb, hx⟩
      rw [h2 i hi, decide_eq_true_eq, List.getD_eq_getElem?_getD, hx] at hb
      exact hb
    · intro hx
      obtain ⟨i, hi⟩ := List.mem_iff_getElem?.1 (ht.subset hx)
      have hl := lt_of_getElem? hi
      exact ⟨i, hl, by rw [h2 i hl, decide_eq_true_eq, List.getD_eq_getElem?_getD, hi]; exact hx, hi⟩
end Go.Proofs
namespace Go.Proofs
open Go Go.Ab
theorem x_small : NSm nX := ⟨⟨by decide +kernel, by decide +kernel⟩, by decide +kernel, by decide +kernel⟩
theorem x_smallN : SmallN nX := ⟨⟨by decide +kernel, by decide +kernel⟩, by decide +kernel⟩
theorem x_smallS : NSm nS := ⟨⟨by decide +kernel, by decide +kernel⟩, by decide +kernel, by decide +kernel⟩
theorem x_asked102 (m : Int) (h1 : 1 ≤ m) (h2 : m ≤ 999) : askedE nX [102] m = 0 := by
  unfold askedE
  rw [if_neg (by rw [x_notes]; decide), if_neg (by rw [x_open]; decide +kernel), if_pos ⟨h1, h2⟩]
theorem x_asked9 : askedE nX [102] 9 = 0 := x_asked102 9 (by omega) (by omega)
theorem x_drawn102 : drawnE nX [102] 1 10 = 0 := by
  unfold drawnE
  rw [if_neg (by rw [x_asked102 1 (by omega) (by omega)]; decide), if_pos (by rw [x_nums]; simp)]
theorem x_strL : strL nX [102] 10 = [⟨1, 7, 1⟩, ⟨8, 20, 2⟩, ⟨21, 999, 1⟩] := by
  unfold strL
  rw [x_drawn102, if_pos rfl, x_str10]
theorem x_first : firV nX [102] 10 2 = 8 ∧ firE nX [102] 10 2 = 0 := by
  unfold firV firE
  rw [x_drawn102, x_strL]
  decide +kernel
theorem x_askedS : askedE nS [] 10 = 0 := by
  unfold askedE
  rw [if_neg (by rw [y_check]; decide), if_neg (by rw [y_open]; decide +kernel), if_pos (by decide)]
theorem x_drawnS : drawnE nS [] 10 10 = 0 := by
  unfold drawnE
  rw [if_neg (by rw [x_askedS]; decide), if_pos (by show (10 : Int) ∈ nums nX.reg; rw [x_nums]; simp)]
theorem x_posS : dedupI (isort ((truthsL (isort (openL nS.notes))).map fun t => letF nS t 10 10)) = [2] := by
  rw [y_open, y_truths, List.map_cons, List.map_nil, y_let]
  rw [show isort [(2 : Int)] = [2] from isort_eq (by decide) (by decide)]
  decide +kernel
theorem x_posX : dedupI (isort ((truthsL (isort (openL nX.notes))).map fun t => letF nX t 10 10)) = [1,2] := by
  rw [x_open, x_truths, List.map_cons, List.map_cons, List.map_nil, x_let1, x_let2]
  rw [show isort [(1 : Int), 2] = [1,2] from isort_eq (by decide) (by decide)]
  decide +kernel
end Go.Proofs
namespace Go.Proofs
open Go Go.Ab
variable {G : Nat → Option (List IC)}
set_option maxHeartbeats 4000000 in
theorem register_c  (objs : List DObj) : DCall Tryz.prog G 81 [] objs (fun rr objs' => rr = regv regX ∧ objs' = objs) := by
  refine DCall.frame ?_ (by simp) (by simp) objs
  refine DCall_intro Tryz.func81 rfl Tryz.ntmps81 (by simp) rfl ?_
  try simp only [iv]
  have hs : True := trivial
  repeat' first | (with_reducible first | refine q01 ?_ | refine q11 ?_ | refine q17 ?_) | (with_reducible refine At.fn_ret (by simp -dsimp [hs]; exact rfl) ?_) | (with_reducible refine DT_regionN (id := 1) (nt := 24) [0] rfl ?_; simp -dsimp [hs]) | (with_reducible refine DT_regionE [0] ?_; simp -dsimp [hs])
  all_goals try simp -dsimp [hs]
  all_goals try clear hs
  all_goals simp [regX]
set_option maxHeartbeats 4000000 in
theorem notesX_c  (objs : List DObj) : DCall Tryz.prog G 42 [] objs (fun rr objs' => rr = notesv nX ∧ objs' = objs) := by
  refine DCall.frame ?_ (by simp) (by simp) objs
  refine DCall_intro Tryz.func42 rfl Tryz.ntmps42 (by simp) rfl ?_
  try simp only [iv]
  have c1 := register_c (G := G)
  simp only [regv] at c1
  have hs : True := trivial
  repeat' first | (with_reducible first | refine q01 ?_ | refine q11 ?_ | refine q17 ?_) | (with_reducible refine At.fn_ret (by simp -dsimp [hs]; exact rfl) ?_) | (refine CallE.pure (c1) ?_; try simp -dsimp [hs]) | (with_reducible refine DT_regionE [0] ?_; simp -dsimp [hs])
  all_goals try simp -dsimp [hs]
  all_goals try clear hs
  all_goals simp [nX, noteX]
theorem forced_c (m : Int) (w : List Int) (hG : sheetG G) (hN : noteG G) (hS : SortOk G) (hw : w.length < 1000) (hm : 1 ≤ m ∧ m ≤ 999) (h : inT nX.notes (frcL [] [] m nX.notes) 4 = w) (objs : List DObj) : DCall Tryz.prog G 43 [iv m, isv w] objs (fun rr objs' => rr = bv true ∧ objs' = objs) := by
  refine DCall.frame ?_ (by simp) (by simp) objs
  refine DCall_intro Tryz.func43 rfl Tryz.ntmps43 (by simp) rfl ?_
  try simp only [iv, isv]
  have c1 := notesX_c (G := G)
  have c2 := nForce_c (G := G) nX [] m hG hN hS x_small (by simp)
  rw [x_asked m hm.1 hm.2, if_pos rfl, show nX.notes.length = 4 from rfl, h] at c2
  have c3 := isX_c (G := G) w 0 w (by omega) (by omega)
  simp only [decide_true, Bool.and_self] at c3
  clear hG hN hS
  generalize nX = n at *
  have hs : True := trivial
  repeat' first | (with_reducible first | refine q01 ?_ | refine q11 ?_ | refine q17 ?_) | (with_reducible refine At.fn_ret (by simp -dsimp [hs]; exact rfl) ?_) | (refine CallE.pure (c1) ?_; try simp -dsimp [hs]) | (refine CallE.pure (c2) ?_; try simp -dsimp [hs]) | (refine CallE.pure (c3) ?_; try simp -dsimp [hs]) | (with_reducible refine DT_regionE [0,1,4,5,6] ?_; simp -dsimp [hs])
  all_goals try simp -dsimp [hs]
  all_goals try clear hs
theorem lettered_c (s : List Int) (m : Int) (w : List Int) (hG : sheetG G) (hN : noteG G) (hS : SortOk G) (hs : s.length < 1000) (hw : w.length < 1000) (ha : askedE nX s m = 0) (h : lettersK nX s m = w) (objs : List DObj) : DCall Tryz.prog G 44 [isv s, iv m, isv w] objs (fun rr objs' => rr = bv true ∧ objs' = objs) := by
  refine DCall.frame ?_ (by simp) (by simp) objs
  refine DCall_intro Tryz.func44 rfl Tryz.ntmps44 (by simp) rfl ?_
  try simp only [isv, iv, isv]
  have c1 := notesX_c (G := G)
  have c2 := nLetters_c (G := G) nX s m hG hN hS x_small hs
  rw [ha, if_pos rfl, letters_eq, h] at c2
  have c3 := isX_c (G := G) w 0 w (by omega) (by omega)
  simp only [decide_true, Bool.and_self] at c3
  clear hG hN hS
  generalize nX = n at *
  have hs : True := trivial
  repeat' first | (with_reducible first | refine q01 ?_ | refine q11 ?_ | refine q17 ?_) | (with_reducible refine At.fn_ret (by simp -dsimp [hs]; exact rfl) ?_) | (refine CallE.pure (c1) ?_; try simp -dsimp [hs]) | (refine CallE.pure (c2) ?_; try simp -dsimp [hs]) | (refine CallE.pure (c3) ?_; try simp -dsimp [hs]) | (with_reducible refine DT_regionE [0,1,2,6,7,8] ?_; simp -dsimp [hs])
  all_goals try simp -dsimp [hs]
  all_goals try clear hs
theorem possible_c (n : Notes) (d m : Int) (w : List Int) (hG : sheetG G) (hN : noteG G) (hS : SortOk G) (hs : NSm n) (hw : w.length < 1000) (ha : drawnE n [] m d = 0) (h : dedupI (isort ((truthsL (isort (openL n.notes))).map fun t => letF n t d m)) = w) (objs : List DObj) : DCall Tryz.prog G 48 [notesv n, iv d, iv m, isv w] objs (fun rr objs' => rr = bv true ∧ objs' = objs) := by
  refine DCall.frame ?_ (by simp) (by simp) objs
  refine DCall_intro Tryz.func48 rfl Tryz.ntmps48 (by simp) rfl ?_
  try simp only [notesv, iv, iv, isv]
  have c2 := nPossible_c (G := G) n d m hG hN hS hs
  rw [ha, if_pos rfl, h] at c2
  have c3 := isX_c (G := G) w 0 w (by omega) (by omega)
  simp only [decide_true, Bool.and_self] at c3
  clear hG hN hS
  have hs : True := trivial
  repeat' first | (with_reducible first | refine q01 ?_ | refine q11 ?_ | refine q17 ?_) | (with_reducible refine At.fn_ret (by simp -dsimp [hs]; exact rfl) ?_) | (refine CallE.pure (c2) ?_; try simp -dsimp [hs]) | (refine CallE.pure (c3) ?_; try simp -dsimp [hs]) | (with_reducible refine DT_regionE [0,1,2,3,4,8,9,10] ?_; simp -dsimp [hs])
  all_goals try simp -dsimp [hs]
  all_goals try clear hs
end Go.Proofs
