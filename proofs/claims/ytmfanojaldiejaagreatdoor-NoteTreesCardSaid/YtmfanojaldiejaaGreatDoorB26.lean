/- Part 26 of the proofs: laws and walks that hold without conditions beyond those that each theorem names. -/
import Derived.Test.YtmfanojaldiejaaGreatDoorB21
import Derived.Test.YtmfanojaldiejaaGreatDoorB22
import Derived.Test.YtmfanojaldiejaaGreatDoorB24
import Derived.Test.YtmfanojaldiejaaGreatDoorB25
set_option linter.all false
set_option linter.deprecated false
namespace Go.Proofs
open Go Go.Ab
variable {G : Nat → Option (List IC)}
theorem nSettleE_c (n : Notes) (a : Int) (b : Bool) (hG : sheetG G) (hN : noteG G) (hS : SortOk G) (hs : NSm n) (h0 : settleE n a ≠ 0) (objs : List DObj) : DCall Tryz.prog G 24 [notesv n, iv a, bv b] objs (fun rr objs' => rr = .tup [notesv ⟨[], []⟩, iv (settleE n a)] ∧ objs' = objs) := by
  refine DCall.frame ?_ (by simp) (by simp) objs
  refine DCall_intro Tryz.func24 rfl Tryz.ntmps24 (by simp) rfl ?_
  try simp only [notesv, iv, bv]
  have c1 := opened_c n hG hN hS hs
  simp only [iv, fileR] at c1
  by_cases hE : notesE n = 0
  · rw [if_pos hE] at c1
    have hnk := notes_ok hE
    have ho : ¬ a ∈ isort (openL n.notes) := fun h => h0 (by unfold settleE; rw [if_neg (by simp [hE]), if_pos (isort_mem.1 h)])
    have hs6 : settleE n a = 6 := by unfold settleE; rw [if_neg (by simp [hE]), if_neg fun h => ho (isort_mem.2 h)]
    have c2 := contains_c (G := G) (isort (openL n.notes)) a (by rw [isortL]; omega)
    rw [decide_eq_false ho] at c2
    rw [hE] at c1
    rw [hs6]
    simp only [isv, iv, bv, fileI] at c1 c2
    have hs : True := trivial
    repeat' first | (with_reducible first | refine q01 ?_ | refine q02 ?_ | refine q11 ?_ | refine q14 ?_ | refine q17 ?_) | (with_reducible refine At.fn_ret (by simp -dsimp [ho, hs]; exact rfl) ?_) | (refine CallE.pure (c1) ?_; try simp -dsimp [ho, hs]) | (refine QCall_pure (c2) ?_; try simp -dsimp [ho, hs]) | (refine DT_regionM (id := 4) (nt := 76) 7 [0,1,2,3,4,6,7,8,9,10,12,13,20,29,37,38,39,40,69] mixed rfl (by kernel_rfl) ?_; simp -dsimp [ho, hs]) | (with_reducible refine DT_regionE [0,1,2,3,4,6,7,8,9,10,12,13,20,29,37,38,39,40,69] ?_; simp -dsimp [ho, hs]) | (refine DT_cond rfl (fun h => ?_) (fun h => ?_) <;> (try simp only [nrm] at h) <;> (try exact Bool.noConfusion h))
    all_goals try simp -dsimp [ho, hs]
    all_goals try clear hs
    all_goals simp
  · rw [if_neg hE] at c1
    have hs6 : settleE n a = notesE n := by unfold settleE; rw [if_pos hE]
    rw [hs6]
    have hs : True := trivial
    repeat' first | (with_reducible first | refine q01 ?_ | refine q02 ?_ | refine q11 ?_ | refine q17 ?_) | (with_reducible refine At.fn_ret (by simp -dsimp [hE, hs]; exact rfl) ?_) | (refine CallE.pure (c1) ?_; try simp -dsimp [hE, hs]) | (with_reducible refine DT_regionE [0,1,2,3,4,6,7,8,9,10,12,13,20,29,37,38,39,40,69] ?_; simp -dsimp [hE, hs]) | (refine DT_cond rfl (fun h => ?_) (fun h => ?_) <;> (try simp only [nrm] at h) <;> (try exact Bool.noConfusion h))
    all_goals try simp -dsimp [hE, hs]
    all_goals try clear hs
    all_goals simp
theorem settle1_c (a : Int) (y : Note) (objs : List DObj) : DCall Tryz.prog G 66 [notev y, .one (.im (.ip [rI a]))] objs (fun d o => d = bv (decide (y.number = a)) ∧ o = objs) := by
  refine DCall.frame ?_ (by simp) (by simp) objs
  refine DCall_intro Tryz.func66 rfl Tryz.ntmps66 (by simp) rfl ?_
  have hs : True := trivial
  repeat' first | (with_reducible first | refine q01 ?_ | refine q11 ?_ | refine q17 ?_) | (with_reducible refine At.fn_ret (by simp -dsimp [hs]; exact rfl) ?_) | (with_reducible refine DT_regionE [0,1,2,3] ?_; simp -dsimp [hs])
  all_goals try simp -dsimp [hs]
  all_goals try clear hs
def SetP (n : Notes) (a : Int) (b : Bool) (d : DV) (o : List DObj) : Prop := ∃ i : Nat × Nat × Nat × Bool, True ∧ d = .tup [.agg [.vec 7 i.2.1 0 n.reg.length, .vec 6 i.1 0 n.notes.length], iv 0] ∧ o = [.row ((encNotes n).map .im), .row [.im (rI a)], .vec 0 [] 0 true, .vec 0 [] 0 true, .row [.vec 7 i.2.1 0 n.reg.length, .vec 6 i.1 0 n.notes.length], .vec 10 [] 0 true, .vec 10 (ims ((settleL n a b).map encNote)) i.1 false, .vec i.2.2.1 (ims (n.reg.map encIssue)) i.2.1 i.2.2.2, .vec 0 [] 0 true, .vec 0 [] 0 true, .vec 0 [] 0 true, .row [.vec 7 i.2.1 0 n.reg.length, .vec 6 i.1 0 n.notes.length]]
set_option maxHeartbeats 4000000 in
theorem nSettleS_c (n : Notes) (a : Int) (b : Bool) (hG : sheetG G) (hN : noteG G) (hS : SortOk G) (hsn : SmallN n) (hs : NSm n) (h0 : settleE n a = 0) : DCall Tryz.prog G 24 [notesv n, iv a, bv b] [] (SetP n a b) := by
  refine DCall_intro Tryz.func24 rfl Tryz.ntmps24 (by simp) rfl ?_
  have c1 := opened_c n hG hN hS hs
  have hE : notesE n = 0 := by
    unfold settleE at h0
    split at h0
    · contradiction
    · simpa using ‹¬ notesE n ≠ 0›
  have hnk := notes_ok hE
  have ho : a ∈ openL n.notes := by
    unfold settleE at h0
    rw [if_neg (by simp [hE])] at h0
    split at h0
    · assumption
    · cases h0
  have c2 := contains_c (G := G) (isort (openL n.notes)) a (by rw [isortL]; omega)
  rw [decide_eq_true (isort_mem.2 ho)] at c2
  have c3 := cloneNN_c (G := G) n.notes (by omega)
  simp only [iv, isv, bv, fileR, if_pos hE, fileI] at c1 c2 c3
  rw [hE] at c1
  simp only [iv]
  obtain ⟨k0, x0, hx0, hn0, hg0⟩ := open_mem.1 ho
  have hk0 := lt_of_getElem? hx0
  have hx0e : n.notes[k0] = x0 := (List.getElem?_eq_some_iff.1 hx0).2
  have hne : n.notes ≠ [] := fun e => by rw [e] at hk0; simp at hk0
  have c5 := fun objs => DCall.fnArg2 (cs := [.ip [rI a]]) (indexFunc_note (G := G) n.notes (fun y => decide (y.number = a)) 66 [.im (.ip [rI a])] objs (by simp) (fun x _ => settle1_c a x objs) (by omega))
  rw [show fidx (fun y => decide (y.number = a)) n.notes = (k0 : Int) by rw [← hn0]; exact fidx_num hnk.2.2.1 hx0] at c5
  have hL : settleL n a b = n.notes.set k0 (sgn x0 (if b = true then 2 else 0)) := by
    unfold settleL setSg; rw [show settleI n a = k0 by rw [← hn0]; exact settleI_at hnk.2.2.1 hx0, hx0]
  have hN60 : n.reg.length ≤ 80 := by have := hs.1.1; omega
  have hit : ∀ x ∈ n.reg, x.items.length < 1000000 ∧ x.dims.length < 1000000 := fun x hx => by have := hs.1.2 x hx; omega
  clear hS hG hN
  have hs : True := trivial
  repeat' first | (with_reducible first | refine q01 ?_ | refine q11 ?_ | refine q12 ?_ | refine q14 ?_) | (refine CallE.pure (c1) ?_; try simp -dsimp [hs]) | (refine QCall_pure (c2) ?_; try simp -dsimp [hs]) | (refine CallE.embed_ex [] (c3) ?_ ?_ ?_ ?_ ?_ ?_; (focus (simp [emb]; done)); (focus (simp; done)); (focus (simp; done)); (focus (simp; done)); (focus (refine emb_all ?_; simp [emb, embAll]; done)); intro mm hmm; try simp -dsimp [mergeO, emb, hs]) | (refine DT_regionM (id := 4) (nt := 76) 7 [0,1,2,3,4,6,7,8,9,10,12,13,20,29,37,38,39,40,69] mixed rfl (by kernel_rfl) ?_; simp -dsimp [hs]) | (with_reducible refine DT_regionN (id := 6) (nt := 76) [0,1,2,3,4,6,7,8,9,10,12,13,20,29,37,38,39,40,69] rfl ?_; simp -dsimp [hs]) | (with_reducible refine DT_regionE [0,1,2,3,4,6,7,8,9,10,12,13,20,29,37,38,39,40,69] ?_; simp -dsimp [hs]) | (refine DT_cond rfl (fun h => ?_) (fun h => ?_) <;> (try simp only [nrm] at h) <;> (try exact Bool.noConfusion h))
  all_goals try simp -dsimp [hs]
  all_goals try clear hs
  obtain ⟨g6, nl6⟩ := mm
  obtain rfl : nl6 = false := by cases nl6 with
    | false => rfl
    | true => exact absurd (hmm rfl) hne
  refine DT_loop (ι := { p : Nat × Nat × Nat × Bool // p.1 ≤ n.reg.length ∧ ((p.2.2.1 = 5 ∧ p.2.2.2 = false) ∨ (p.2.2.1 = 0 ∧ p.2.2.2 = true ∧ p.1 = 0)) }) (fun p => ⟨76, [(2, bv b), (4, .one (.ptr 1 0)), (6, .one (.ptr 4 0)), (7, iv 0), (10, .one (.ptr 11 0)), (37, .one (.im (.sl (n.reg.map encIssue)))), (38, iv (n.reg.length : Int)), (39, iv (p.1.1 : Int))], [.row ((encNotes n).map .im), .row [.im (rI a)], .vec 0 [] 0 true, .vec 0 [] 0 true, .row [.vec 2 0 0 0, .vec 3 0 0 0], .vec 10 [] 0 true, .vec 10 (ims (n.notes.map encNote)) g6 false, .vec p.1.2.2.1 (ims ((n.reg.take p.1.1).map encIssue)) p.1.2.1 p.1.2.2.2, .vec 0 [] 0 true, .vec 0 [] 0 true, .vec 0 [] 0 true, .row [.vec 7 p.1.2.1 0 p.1.1, .vec 6 g6 0 n.notes.length]]⟩) (fun p => n.reg.length - p.1.1) ⟨(0, 0, 0, true), by simp⟩ (Weak.of_keep [2,4,6,7,10,37,38,39] (by simp)) ?_
  rintro ⟨⟨k, g, sz, nl⟩, hk, hz⟩
  simp only at hk hz
  simp only [iv, bv]
  by_cases hlt : k < n.reg.length
  · have hw : IntKind.i64.wrap ((k : Int) + 1) = ((k + 1 : Nat) : Int) := i64w (by omega) (by omega)
    have hst : n.reg.take (k + 1) = n.reg.take k ++ [n.reg[k]] := List.take_succ_eq_append_getElem hlt
    have hkl : (n.reg.take k).length = k := by simp; omega
    have hxs : n.reg[k]? = some n.reg[k] := List.getElem?_eq_getElem hlt
    have hix := hit n.reg[k] (List.getElem_mem hlt)
    generalize hx : n.reg[k] = x at *
    have c6 := clone_itm (G := G) x.items hix.1
    have c7 := clone_dim (G := G) x.dims hix.2
    have hm : (n.reg.take (k + 1)).map encIssue = (n.reg.take k).map encIssue ++ [encIssue x] := by rw [hst]; simp
    have hml : ((n.reg.take k).map encIssue).length = k := by rw [List.length_map]; exact hkl
    generalize (n.reg.take k).map encIssue = L at *
    rcases hz with ⟨rfl, rfl⟩ | ⟨rfl, rfl, rfl⟩
    · subst hml
      have hs : True := trivial
      repeat' first | (with_reducible first | refine q01 ?_ | refine q04 ?_ | refine q11 ?_ | refine q12 ?_ | refine q14 ?_ | refine And.intro (by omega) ?_) | (refine QCall_pure (c6) ?_; try simp -dsimp [hx, hlt, hxs, hw, hs]) | (refine QCall_pure (c7) ?_; try simp -dsimp [hx, hlt, hxs, hw, hs]) | (refine DT_regionM (id := 10) (nt := 76) 7 [0,1,2,3,4,6,7,8,9,10,12,13,20,29,37,38,39,40,69] mixed rfl (by kernel_rfl) ?_; simp -dsimp [hx, hlt, hxs, hw, hs]) | (with_reducible refine DT_regionE [0,1,2,3,4,6,7,8,9,10,12,13,20,29,37,38,39,40,69] ?_; simp -dsimp [hx, hlt, hxs, hw, hs]) | (refine DT_cond rfl (fun h => ?_) (fun h => ?_) <;> (try simp only [nrm] at h) <;> (try exact Bool.noConfusion h))
      all_goals try simp -dsimp [hx, hlt, hxs, hw, hs]
      all_goals try clear hs
      all_goals exact At.round ⟨(L.length + 1, g + 1, 5, false), by omega, .inl ⟨rfl, rfl⟩⟩ (by simp only; omega) (Weak.of_drop [2,4,6,7,10,37,38,39] 12 (by simp) (by simp) (by simp [hm, show List.take L.length (ims L) = ims L from List.take_of_length_le (by simp)]))
    · obtain rfl := List.eq_nil_of_length_eq_zero hml
      have hw1 : IntKind.i64.wrap 1 = 1 := i64w (by omega) (by omega)
      have hs : True := trivial
      repeat' first | (with_reducible first | refine q01 ?_ | refine q04 ?_ | refine q11 ?_ | refine q12 ?_ | refine q14 ?_) | (refine QCall_pure (c6) ?_; try simp -dsimp [hx, hlt, hxs, hw, hw1, hs]) | (refine QCall_pure (c7) ?_; try simp -dsimp [hx, hlt, hxs, hw, hw1, hs]) | (refine DT_regionM (id := 10) (nt := 76) 7 [0,1,2,3,4,6,7,8,9,10,12,13,20,29,37,38,39,40,69] mixed rfl (by kernel_rfl) ?_; simp -dsimp [hx, hlt, hxs, hw, hw1, hs]) | (with_reducible refine DT_regionE [0,1,2,3,4,6,7,8,9,10,12,13,20,29,37,38,39,40,69] ?_; simp -dsimp [hx, hlt, hxs, hw, hw1, hs]) | (refine DT_cond rfl (fun h => ?_) (fun h => ?_) <;> (try simp only [nrm] at h) <;> (try exact Bool.noConfusion h))
      all_goals try simp -dsimp [hx, hlt, hxs, hw, hw1, hs]
      all_goals try clear hs
      all_goals exact At.round ⟨(1, g + 1, 5, false), by omega, .inl ⟨rfl, rfl⟩⟩ (by simp only; omega) (Weak.of_drop [2,4,6,7,10,37,38,39] 12 (by simp) (by simp) (by simp [hm, hw1]))
  · obtain rfl : k = n.reg.length := by omega
    rw [List.take_length]
    cases b
    · have hs : True := trivial
      repeat' first | (with_reducible first | refine q01 ?_ | refine q03 ?_ | refine q06 ?_ | refine q11 ?_ | refine q14 ?_ | refine q16 ?_ | refine q17 ?_) | (with_reducible refine At.fn_ret (by simp -dsimp [hlt, hk0, hx0, hx0e, hs]; exact rfl) ?_) | (refine CallE.thaw (c5) ?_ ?_ ?_; (focus (simp; done)); (focus (simp; done)); try simp -dsimp [hlt, hk0, hx0, hx0e, hs]) | (with_reducible refine DT_regionE [0,1,2,3,4,6,7,8,9,10,12,13,20,29,37,38,39,40,69] ?_; simp -dsimp [hlt, hk0, hx0, hx0e, hs]) | (refine DT_cond rfl (fun h => ?_) (fun h => ?_) <;> (try simp only [nrm] at h) <;> (try exact Bool.noConfusion h))
      all_goals try simp -dsimp [hlt, hk0, hx0, hx0e, hs]
      all_goals try clear hs
      all_goals exact ⟨(g6, g, sz, nl), trivial, rfl, by
          have hV : ims ((settleL n a false).map encNote) = (ims (n.notes.map encNote)).set k0 ((encNote (sgn x0 0)).map .im) := by rw [hL, List.map_set, imsSet]; rfl
          rw [hV]; rfl⟩
    · have hs : True := trivial
      repeat' first | (with_reducible first | refine q01 ?_ | refine q03 ?_ | refine q06 ?_ | refine q11 ?_ | refine q16 ?_ | refine q17 ?_) | (with_reducible refine At.fn_ret (by simp -dsimp [hlt, hk0, hx0, hx0e, hs]; exact rfl) ?_) | (refine CallE.thaw (c5) ?_ ?_ ?_; (focus (simp; done)); (focus (simp; done)); try simp -dsimp [hlt, hk0, hx0, hx0e, hs]) | (with_reducible refine DT_regionE [0,1,2,3,4,6,7,8,9,10,12,13,20,29,37,38,39,40,69] ?_; simp -dsimp [hlt, hk0, hx0, hx0e, hs]) | (refine DT_cond rfl (fun h => ?_) (fun h => ?_) <;> (try simp only [nrm] at h) <;> (try exact Bool.noConfusion h))
      all_goals try simp -dsimp [hlt, hk0, hx0, hx0e, hs]
      all_goals try clear hs
      all_goals exact ⟨(g6, g, sz, nl), trivial, rfl, by
          have hV : ims ((settleL n a true).map encNote) = (ims (n.notes.map encNote)).set k0 ((encNote (sgn x0 2)).map .im) := by rw [hL, List.map_set, imsSet]; rfl
          rw [hV]; rfl⟩
end Go.Proofs
namespace Go.Proofs
open Go Go.Ab
variable {G : Nat → Option (List IC)}
theorem nSettle_c (n : Notes) (a : Int) (b : Bool) (hG : sheetG G) (hN : noteG G) (hS : SortOk G) (hsn : SmallN n) (hs : NSm n) (objs : List DObj) : DCall Tryz.prog G 24 [notesv n, iv a, bv b] objs (fun rr objs' => rr = .tup [notesv (settleN n a b), iv (settleE n a)] ∧ objs' = objs) := by
  by_cases h0 : settleE n a = 0
  · have h := nSettleS_c n a b hG hN hS hsn hs h0
    have hN2 : settleN n a b = ⟨n.reg, settleL n a b⟩ := by unfold settleN; rw [if_pos h0]
    have hll : (settleL n a b).length = n.notes.length := setSg_len _ _ _
    rw [h0, hN2]
    refine DCall.frame (DCall.mono h ?_) (by simp) (by simp) objs
    rintro d o ⟨⟨g6, g7, sz, nl⟩, _, rfl, rfl⟩
    rw [← hll]
    generalize settleL n a b = N2 at *
    simp
  · have hN2 : settleN n a b = ⟨[], []⟩ := by unfold settleN; rw [if_neg h0]
    rw [hN2]
    exact nSettleE_c n a b hG hN hS hs h0 objs
end Go.Proofs
namespace Go.Proofs
open Go Go.Ab
variable {G : Nat → Option (List IC)}
end Go.Proofs
namespace Go.Proofs
open Go Go.Ab
variable {G : Nat → Option (List IC)}
theorem sameStr_c (l : List Str) (hl : l.length < 1000000) (objs : List DObj) : DCall Tryz.prog G 45 [strv l, strv l] objs (fun rr objs' => rr = bv true ∧ objs' = objs) := by
  refine DCall.frame ?_ (by simp) (by simp) objs
  refine DCall_intro Tryz.func45 rfl Tryz.ntmps45 (by simp) rfl ?_
  try simp only [iv]
  simp only [strv, bv]
  have hs : True := trivial
  repeat' first | (with_reducible first | refine q01 ?_ | refine q11 ?_ | refine q12 ?_ | refine q14 ?_) | (with_reducible refine DT_regionE [0,1,4,5,10,14,25] ?_; simp -dsimp [hs]) | (refine DT_cond rfl (fun h => ?_) (fun h => ?_) <;> (try simp only [nrm] at h) <;> (try exact Bool.noConfusion h))
  all_goals try simp -dsimp [hs]
  all_goals try clear hs
  refine DT_loop (ι := { k : Nat // k ≤ l.length }) (fun p => ⟨26, [(0, strv l), (1, strv l), (5, iv (p.1 : Int))], []⟩) (fun p => l.length - p.1) ⟨0, by simp⟩ (Weak.of_keep [0,1,5] (by simp)) ?_
  rintro ⟨k, hk⟩
  simp only [iv, strv]
  by_cases hlt : k < l.length
  · have hw : IntKind.i64.wrap ((k : Int) + 1) = ((k + 1 : Nat) : Int) := i64w (by omega) (by omega)
    generalize hx : l[k] = x
    have hs : True := trivial
    repeat' first | (with_reducible first | refine q01 ?_ | refine q04 ?_ | refine q11 ?_ | refine q12 ?_ | refine q14 ?_) | (refine DT_regionM (id := 6) (nt := 26) 9 [0,1,4,5,10,14,25] mixed rfl (by kernel_rfl) ?_; simp -dsimp [hx, hlt, hw, hs]) | (with_reducible refine DT_regionE [0,1,4,5,10,14,25] ?_; simp -dsimp [hx, hlt, hw, hs]) | (refine DT_cond rfl (fun h => ?_) (fun h => ?_) <;> (try simp only [nrm] at h) <;> (try exact Bool.noConfusion h))
    all_goals try simp -dsimp [hx, hlt, hw, hs]
    all_goals try clear hs
    exact At.round ⟨k + 1, by omega⟩ (by simp; omega) (Weak.of_keep [0,1,5] (by simp))
  · have hs : True := trivial
    repeat' first | (with_reducible first | refine q01 ?_ | refine q03 ?_ | refine q06 ?_ | refine q11 ?_ | refine q16 ?_ | refine q17 ?_) | (with_reducible refine At.fn_ret (by simp -dsimp [hlt, hs]; exact rfl) ?_) | (with_reducible refine DT_regionE [0,1,4,5,10,14,25] ?_; simp -dsimp [hlt, hs]) | (refine DT_cond rfl (fun h => ?_) (fun h => ?_) <;> (try simp only [nrm] at h) <;> (try exact Bool.noConfusion h))
    all_goals try simp -dsimp [hlt, hs]
    all_goals try clear hs
end Go.Proofs
namespace Go.Proofs
open Go Go.Ab
variable {G : Nat → Option (List IC)}
end Go.Proofs
namespace Go.Proofs
open Go Go.Ab
variable {G : Nat → Option (List IC)}
set_option maxRecDepth 4000 in
set_option maxHeartbeats 8000000 in
theorem clash_c (n : Notes) (s w : List Int) (hS : SortOk G) (hok : allOk n) (hl : n.notes.length ≤ 16) (hsl : s.length < 1000) (hwl : w.length < 1000) (objs : List DObj) : DCall Tryz.prog G 71 [.one (.im (fileI n)), isv s, isv w] objs (fun rr objs' => rr = prv (clashL n s w) ∧ objs' = objs) := by
  refine DCall.frame ?_ (by simp) (by simp) objs
  refine DCall_intro Tryz.func71 rfl Tryz.ntmps71 (by simp) rfl ?_
  try simp only [isv, isv]
  have c1 := marks_c n hS (by omega) (fun x hx => by have := nk3_of hok hx; omega)
  have c2 := fun m => force_c (G := G) n s w m
  have hml := marks_len n.notes
  simp only [fileI] at c1 ⊢
  simp only [frcObjs, frcCaps, fileI, iv, isv, bv, rI, List.map_cons, List.map_nil, encMB] at c2
  have hs : True := trivial
  repeat' first | (with_reducible first | refine q01 ?_ | refine q11 ?_ | refine q12 ?_) | (refine CallE.pure (c1) ?_; try simp -dsimp [hs]) | (with_reducible refine DT_regionE [0,1,2,6,7,9,10,11,12,13,14,15,16,17,20,21,22,23,36,37,38,40,41,42,51,63,64,65,66,74,75,76,77,104] ?_; simp -dsimp [hs])
  all_goals try simp -dsimp [hs]
  all_goals try clear hs
  generalize hMs : marksP n.notes = Ms at *
  refine DT_loop (ι := { p : Nat × List (Int × Int) // p.1 ≤ Ms.length ∧ ∀ m, Bspec n s w (Ms.take p.1) m 0 0 p.2 }) (fun p => ⟨116, [(0, .one (.im (.ip [.sl (n.reg.map encIssue), .sl (n.notes.map encNote), .sl ((nums n.reg).map encI), .sl ((isort (openL n.notes)).map encI)]))), (1, isv s), (2, isv w), (7, .one (.map 1)), (20, isv Ms), (21, iv (Ms.length : Int)), (22, iv (p.1.1 : Int))], [.vec 2 [] 0 true, .map [.int .i64, .int .i64] (encPS p.1.2)]⟩) (fun p => Ms.length - p.1.1) ⟨(0, []), by simp, fun m => Bspec.start n s w m⟩ (Weak.of_keep [0,1,2,7,20,21,22] (by simp [encPS])) ?_
  rintro ⟨⟨j, B⟩, hj, hB⟩
  simp only at hj hB
  simp only [iv, isv]
  by_cases hlt : j < Ms.length
  · have hw : IntKind.i64.wrap ((j : Int) + 1) = ((j + 1 : Nat) : Int) := i64w (by omega) (by omega)
    have htk : Ms.take (j + 1) = Ms.take j ++ [Ms[j]] := List.take_succ_eq_append_getElem hlt
    generalize hm : Ms[j] = m at *
    have c3 := c2 m
    have hs : True := trivial
    repeat' first | (with_reducible first | refine q01 ?_ | refine q11 ?_ | refine q12 ?_ | refine q14 ?_) | (refine CallE.embed [] (c3) ?_ ?_ ?_ ?_ ?_ ?_; (focus (simp [emb]; done)); (focus (simp; done)); (focus (simp; done)); (focus (simp; done)); (focus (refine emb_all ?_; simp [emb, embAll]; done)); try simp -dsimp [mergeO, emb, hm, hlt, hs]) | (with_reducible refine DT_regionE [0,1,2,6,7,9,10,11,12,13,14,15,16,17,20,21,22,23,36,37,38,40,41,42,51,63,64,65,66,74,75,76,77,104] ?_; simp -dsimp [hm, hlt, hs]) | (refine DT_cond rfl (fun h => ?_) (fun h => ?_) <;> (try simp only [nrm] at h) <;> (try exact Bool.noConfusion h))
    all_goals try simp -dsimp [hm, hlt, hs]
    all_goals try clear hs
    refine DT_loop (ι := { p : Nat × List (Int × Int) × List (Int × Bool) // p.1 ≤ n.notes.length ∧ ConsM n s w m p.2.2 ∧ Bspec n s w (Ms.take j) m p.1 0 p.2.1 }) (fun p => ⟨116, [(0, .one (.im (.ip [.sl (n.reg.map encIssue), .sl (n.notes.map encNote), .sl ((nums n.reg).map encI), .sl ((isort (openL n.notes)).map encI)]))), (1, isv s), (2, isv w), (7, .one (.map 1)), (10, .one (.fn (.func 87) [.ptr 7 0, .ptr 2 0, .ptr 3 0, .ptr 4 0, .ptr 5 0, .ptr 8 0])), (20, isv Ms), (21, iv (Ms.length : Int)), (22, iv (j : Int)), (36, iv (n.notes.length : Int)), (37, iv (p.1.1 : Int))], [.vec 2 [] 0 true, .map [.int .i64, .int .i64] (encPS p.1.2.1)] ++ [.row [.im (.ip [.sl (n.reg.map encIssue), .sl (n.notes.map encNote), .sl ((nums n.reg).map encI), .sl ((isort (openL n.notes)).map encI)])], .row [.im (.sl (s.map encI))], .row [.im (.sl (w.map encI))], .row [.im (rI m)], .map [.int .i64] (encMB p.1.2.2), .row [.map 6], .row [.fn (.func 87) [.ptr 7 0, .ptr 2 0, .ptr 3 0, .ptr 4 0, .ptr 5 0, .ptr 8 0]]]⟩) (fun p => n.notes.length - p.1.1) ⟨(0, B, []), by simp, ConsM.nil _ _ _ _, hB m⟩ (Weak.of_keep [0,1,2,7,10,20,21,22,36,37] (by simp [encMB])) ?_
    rintro ⟨⟨i, B2, M⟩, hi, hM, hB2⟩
    simp only at hi hM hB2
    simp only [iv, isv]
    by_cases hli : i < n.notes.length
    · have hwi : IntKind.i64.wrap ((i : Int) + 1) = ((i + 1 : Nat) : Int) := i64w (by omega) (by omega)
      have hs : True := trivial
      repeat' first | (with_reducible first | refine q01 ?_ | refine q11 ?_ | refine q12 ?_ | refine q14 ?_) | (with_reducible refine DT_regionE [0,1,2,6,7,9,10,11,12,13,14,15,16,17,20,21,22,23,36,37,38,40,41,42,51,63,64,65,66,74,75,76,77,104] ?_; simp -dsimp [hli, hs]) | (refine DT_cond rfl (fun h => ?_) (fun h => ?_) <;> (try simp only [nrm] at h) <;> (try exact Bool.noConfusion h))
      all_goals try simp -dsimp [hli, hs]
      all_goals try clear hs
      refine DT_loop (ι := { p : Nat × List (Int × Int) × List (Int × Bool) // p.1 ≤ i ∧ ConsM n s w m p.2.2 ∧ Bspec n s w (Ms.take j) m i p.1 p.2.1 }) (fun p => ⟨116, [(0, .one (.im (.ip [.sl (n.reg.map encIssue), .sl (n.notes.map encNote), .sl ((nums n.reg).map encI), .sl ((isort (openL n.notes)).map encI)]))), (1, isv s), (2, isv w), (7, .one (.map 1)), (10, .one (.fn (.func 87) [.ptr 7 0, .ptr 2 0, .ptr 3 0, .ptr 4 0, .ptr 5 0, .ptr 8 0])), (11, iv (i : Int)), (20, isv Ms), (21, iv (Ms.length : Int)), (22, iv (j : Int)), (36, iv (n.notes.length : Int)), (37, iv (i : Int)), (40, iv (i : Int)), (41, iv (p.1.1 : Int))], [.vec 2 [] 0 true, .map [.int .i64, .int .i64] (encPS p.1.2.1)] ++ [.row [.im (.ip [.sl (n.reg.map encIssue), .sl (n.notes.map encNote), .sl ((nums n.reg).map encI), .sl ((isort (openL n.notes)).map encI)])], .row [.im (.sl (s.map encI))], .row [.im (.sl (w.map encI))], .row [.im (rI m)], .map [.int .i64] (encMB p.1.2.2), .row [.map 6], .row [.fn (.func 87) [.ptr 7 0, .ptr 2 0, .ptr 3 0, .ptr 4 0, .ptr 5 0, .ptr 8 0]]]⟩) (fun p => i - p.1.1) ⟨(0, B2, M), by simp, hM, hB2⟩ (Weak.of_keep [0,1,2,7,10,11,20,21,22,36,37,40,41] (by simp)) ?_
      rintro ⟨⟨k, B3, M3⟩, hk, hM3, hB3⟩
      simp only at hk hM3 hB3
      simp only [iv, isv]
      by_cases hlk : k < i
      · have hwk : IntKind.i64.wrap ((k : Int) + 1) = ((k + 1 : Nat) : Int) := i64w (by omega) (by omega)
        have c4 := is_c (G := G) n s w m (by omega) hsl hwl n.notes.length i (by omega) hli M3 hM3
        have c5 := fun M hM => is_c (G := G) n s w m (by omega) hsl hwl n.notes.length k (by omega) (by omega) M hM
        have hput := fun h => hB3.put hlk hli h
        have hskip := fun h => hB3.skip (k := k) h
        simp only [frcObjs, frcCaps, fileI, iv, bv, rI, List.map_cons, List.map_nil] at c4 c5
        cases hfi : frcAt n s w m i
        · rw [hfi] at c4
          have hsk := hskip (by rw [hfi]; simp)
          have hs : True := trivial
          repeat' first | (with_reducible first | refine q01 ?_ | refine q04 ?_ | refine q11 ?_ | refine q12 ?_ | refine q14 ?_) | (refine CallE.embed_ex [2,3,4,5,6,7,8] (c4) ?_ ?_ ?_ ?_ ?_ ?_; (focus (simp [emb]; done)); (focus (simp; done)); (focus (simp; done)); (focus (simp; done)); (focus (refine emb_all ?_; simp [emb, embAll]; done)); intro mm hmm; try simp -dsimp [mergeO, emb, hlk, hwk, hs]) | (with_reducible refine DT_regionE [0,1,2,6,7,9,10,11,12,13,14,15,16,17,20,21,22,23,36,37,38,40,41,42,51,63,64,65,66,74,75,76,77,104] ?_; simp -dsimp [hlk, hwk, hs]) | (refine DT_cond rfl (fun h => ?_) (fun h => ?_) <;> (try simp only [nrm] at h) <;> (try exact Bool.noConfusion h))
          all_goals try simp -dsimp [hlk, hwk, hs]
          all_goals try clear hs
          all_goals exact At.round ⟨(k + 1, B3, mm), by simp only; omega, hmm, hsk⟩ (by simp only; omega) (Weak.of_drop [0,1,2,7,10,11,20,21,22,36,37,40,41] 9 (by simp) (by simp) (by simp))
        · cases hfk : frcAt n s w m k
          · rw [hfi] at c4
            simp only [hfk] at c5
            have hsk := hskip (by rw [hfk]; simp)
            have hs : True := trivial
            repeat' first | (with_reducible first | refine q01 ?_ | refine q04 ?_ | refine q11 ?_ | refine q12 ?_ | refine q14 ?_) | (refine CallE.embed_ex [2,3,4,5,6,7,8] (c4) ?_ ?_ ?_ ?_ ?_ ?_; (focus (simp [emb]; done)); (focus (simp; done)); (focus (simp; done)); (focus (simp; done)); (focus (refine emb_all ?_; simp [emb, embAll]; done)); intro mma hmma; try simp -dsimp [mergeO, emb, hlk, hwk, hs]) | (refine CallE.embed_ex [2,3,4,5,6,7,8] (c5 mma hmma) ?_ ?_ ?_ ?_ ?_ ?_; (focus (simp [emb]; done)); (focus (simp; done)); (focus (simp; done)); (focus (simp; done)); (focus (refine emb_all ?_; simp [emb, embAll]; done)); intro mm hmm; try simp -dsimp [mergeO, emb, hlk, hwk, hs]) | (with_reducible refine DT_regionE [0,1,2,6,7,9,10,11,12,13,14,15,16,17,20,21,22,23,36,37,38,40,41,42,51,63,64,65,66,74,75,76,77,104] ?_; simp -dsimp [hlk, hwk, hs]) | (refine DT_cond rfl (fun h => ?_) (fun h => ?_) <;> (try simp only [nrm] at h) <;> (try exact Bool.noConfusion h))
            all_goals try simp -dsimp [hlk, hwk, hs]
            all_goals try clear hs
            all_goals exact At.round ⟨(k + 1, B3, mm), by simp only; omega, hmm, hsk⟩ (by simp only; omega) (Weak.of_drop [0,1,2,7,10,11,20,21,22,36,37,40,41] 9 (by simp) (by simp) (by simp))
          · rw [hfi] at c4
            simp only [hfk] at c5
            have hpt := hput ⟨hfi, hfk⟩
            have hs : True := trivial
            repeat' first | (with_reducible first | refine q01 ?_ | refine q04 ?_ | refine q11 ?_ | refine q12 ?_ | refine q14 ?_) | (refine CallE.embed_ex [2,3,4,5,6,7,8] (c4) ?_ ?_ ?_ ?_ ?_ ?_; (focus (simp [emb]; done)); (focus (simp; done)); (focus (simp; done)); (focus (simp; done)); (focus (refine emb_all ?_; simp [emb, embAll]; done)); intro mma hmma; try simp -dsimp [mergeO, emb, hlk, hwk, hs]) | (refine CallE.embed_ex [2,3,4,5,6,7,8] (c5 mma hmma) ?_ ?_ ?_ ?_ ?_ ?_; (focus (simp [emb]; done)); (focus (simp; done)); (focus (simp; done)); (focus (simp; done)); (focus (refine emb_all ?_; simp [emb, embAll]; done)); intro mm hmm; try simp -dsimp [mergeO, emb, hlk, hwk, hs]) | (with_reducible refine DT_regionE [0,1,2,6,7,9,10,11,12,13,14,15,16,17,20,21,22,23,36,37,38,40,41,42,51,63,64,65,66,74,75,76,77,104] ?_; simp -dsimp [hlk, hwk, hs]) | (refine DT_cond rfl (fun h => ?_) (fun h => ?_) <;> (try simp only [nrm] at h) <;> (try exact Bool.noConfusion h))
            all_goals try simp -dsimp [hlk, hwk, hs]
            all_goals try clear hs
            all_goals exact At.round ⟨(k + 1, pput ((k : Int), (i : Int)) B3, mm), by simp only; omega, hmm, hpt⟩ (by simp only; omega) (Weak.of_drop [0,1,2,7,10,11,20,21,22,36,37,40,41] 9 (by simp) (by simp) (by simp))
      · obtain rfl : k = i := by omega
        have hrow := hB3.row
        have hs : True := trivial
        repeat' first | (with_reducible first | refine q01 ?_ | refine q03 ?_ | refine q04 ?_ | refine q06 ?_ | refine q11 ?_ | refine q16 ?_) | (with_reducible refine DT_regionE [0,1,2,6,7,9,10,11,12,13,14,15,16,17,20,21,22,23,36,37,38,40,41,42,51,63,64,65,66,74,75,76,77,104] ?_; simp -dsimp [hlk, hwi, hs]) | (refine DT_cond rfl (fun h => ?_) (fun h => ?_) <;> (try simp only [nrm] at h) <;> (try exact Bool.noConfusion h))
        all_goals try simp -dsimp [hlk, hwi, hs]
        all_goals try clear hs
        all_goals exact At.round ⟨(k + 1, B3, M3), by simp only; omega, hM3, hrow⟩ (by simp only; omega) (Weak.of_drop [0,1,2,7,10,20,21,22,36,37] 9 (by simp) (by simp) (by simp))
    · obtain rfl : i = n.notes.length := by omega
      have hmk := fun m' => hB2.mark (m' := m')
      have hs : True := trivial
      repeat' first | (with_reducible first | refine q01 ?_ | refine q03 ?_ | refine q04 ?_ | refine q06 ?_ | refine q11 ?_ | refine q16 ?_) | (with_reducible refine DT_regionE [0,1,2,6,7,9,10,11,12,13,14,15,16,17,20,21,22,23,36,37,38,40,41,42,51,63,64,65,66,74,75,76,77,104] ?_; simp -dsimp [hli, hw, hs]) | (refine DT_cond rfl (fun h => ?_) (fun h => ?_) <;> (try simp only [nrm] at h) <;> (try exact Bool.noConfusion h))
      all_goals try simp -dsimp [hli, hw, hs]
      all_goals try clear hs
      all_goals exact At.round ⟨(j + 1, B2), by simp only; omega, fun m' => by rw [htk]; exact hmk m'⟩ (by simp only; omega) (Weak.of_drop [0,1,2,7,20,21,22] 2 (by simp) (by simp) (by simp))
  · obtain rfl : j = Ms.length := by omega
    rw [List.take_length, ← hMs] at hB
    have hboth := fun a b hb => (hB 0).both (a := a) (b := b) hb
    have hs : True := trivial
    repeat' first | (with_reducible first | refine q01 ?_ | refine q03 ?_ | refine q06 ?_ | refine q11 ?_ | refine q12 ?_ | refine q16 ?_) | (with_reducible refine DT_regionE [0,1,2,6,7,9,10,11,12,13,14,15,16,17,20,21,22,23,36,37,38,40,41,42,51,63,64,65,66,74,75,76,77,104] ?_; simp -dsimp [hlt, hs]) | (refine DT_cond rfl (fun h => ?_) (fun h => ?_) <;> (try simp only [nrm] at h) <;> (try exact Bool.noConfusion h))
    all_goals try simp -dsimp [hlt, hs]
    all_goals try clear hs
    refine DT_loop (ι := { p : Nat × Nat × Bool // p.1 ≤ n.notes.length }) (fun p => ⟨116, [(0, .one (.im (.ip [.sl (n.reg.map encIssue), .sl (n.notes.map encNote), .sl ((nums n.reg).map encI), .sl ((isort (openL n.notes)).map encI)]))), (7, .one (.map 1)), (13, .one (.vec 2 p.1.2.1 0 (clTo n s w p.1.1).length)), (63, .one (.im (.sl (n.notes.map encNote)))), (64, iv (n.notes.length : Int)), (65, iv (p.1.1 : Int))], [.vec 2 [] 0 true, .map [.int .i64, .int .i64] (encPS B), .vec 2 (ims ((clTo n s w p.1.1).map encPr)) p.1.2.1 p.1.2.2]⟩) (fun p => n.notes.length - p.1.1) ⟨(0, 0, true), by simp⟩ (Weak.of_keep [0,7,13,63,64,65] (by simp [clTo])) ?_
    rintro ⟨⟨a, g, nl⟩, ha⟩
    simp only at ha
    simp only [iv]
    have hTl := clTo_len n s w a
    have hTl2 : a * n.notes.length ≤ 16 * 16 := Nat.mul_le_mul (by omega) hl
    by_cases hla : a < n.notes.length
    · have hwa : IntKind.i64.wrap ((a : Int) + 1) = ((a + 1 : Nat) : Int) := i64w (by omega) (by omega)
      have hsa := clTo_succ n s w a
      have hna : numAt n.notes a = n.notes[a].number := by simp [numAt, hla]
      have hxo : n.notes[a]? = some n.notes[a] := by simp [hla]
      generalize hx : n.notes[a] = x at *
      generalize clTo n s w a = T at *
      have hs : True := trivial
      repeat' first | (with_reducible first | refine q01 ?_ | refine q11 ?_ | refine q12 ?_ | refine q14 ?_) | (with_reducible refine DT_regionE [0,1,2,6,7,9,10,11,12,13,14,15,16,17,20,21,22,23,36,37,38,40,41,42,51,63,64,65,66,74,75,76,77,104] ?_; simp -dsimp [hx, hla, hs]) | (refine DT_cond rfl (fun h => ?_) (fun h => ?_) <;> (try simp only [nrm] at h) <;> (try exact Bool.noConfusion h))
      all_goals try simp -dsimp [hx, hla, hs]
      all_goals try clear hs
      refine DT_loop (ι := { p : Nat × Nat × Bool // p.1 ≤ n.notes.length }) (fun p => ⟨116, [(0, .one (.im (.ip [.sl (n.reg.map encIssue), .sl (n.notes.map encNote), .sl ((nums n.reg).map encI), .sl ((isort (openL n.notes)).map encI)]))), (7, .one (.map 1)), (13, .one (.vec 2 p.1.2.1 0 (T ++ clRow n s w a p.1.1).length)), (14, iv (a : Int)), (15, .one (.ptr 3 0)), (63, .one (.im (.sl (n.notes.map encNote)))), (64, iv (n.notes.length : Int)), (65, iv (a : Int)), (74, .one (.im (.sl (n.notes.map encNote)))), (75, iv (n.notes.length : Int)), (76, iv (p.1.1 : Int))], [.vec 2 [] 0 true, .map [.int .i64, .int .i64] (encPS B), .vec 2 (ims ((T ++ clRow n s w a p.1.1).map encPr)) p.1.2.1 p.1.2.2, .row ((encNote x).map .im)]⟩) (fun p => n.notes.length - p.1.1) ⟨(0, g, nl), by simp⟩ (Weak.of_keep [0,7,13,14,15,63,64,65,74,75,76] (by simp [clRow])) ?_
      rintro ⟨⟨b, g2, nl2⟩, hb⟩
      simp only at hb
      simp only [iv]
      have hRl := clRow_len n s w a b
      by_cases hlb : b < n.notes.length
      · have hwb : IntKind.i64.wrap ((b : Int) + 1) = ((b + 1 : Nat) : Int) := i64w (by omega) (by omega)
        have hsb := clRow_succ n s w a b
        have hnb : numAt n.notes b = n.notes[b].number := by simp [numAt, hlb]
        have hyo : n.notes[b]? = some n.notes[b] := by simp [hlb]
        have hbo := hboth a b hlb
        have hck : clOk n s w a b = (decide (((a : Int), (b : Int)) ∈ B) && (decide (x.drawing ≠ 0) && decide (x.drawing = n.notes[b].drawing) && decide (n.notes[b].letter < x.letter))) := by
          rw [hbo, clOk, hxo, hyo]
        generalize hy : n.notes[b] = y at *
        rw [hna, hnb] at hsb
        have hTR : (T ++ clRow n s w a b).length ≤ 500 := by rw [List.length_append]; omega
        have hsb2 : T ++ clRow n s w a (b + 1) = (T ++ clRow n s w a b) ++ (if clOk n s w a b = true then [(x.number, y.number)] else []) := by
          rw [hsb, ← List.append_assoc]
        clear hsb
        generalize T ++ clRow n s w a b = R at *
        cases hq : decide (((a : Int), (b : Int)) ∈ B)
        · have hq' : ¬ ((a : Int), (b : Int)) ∈ B := by simpa using hq
          rw [hq] at hck
          rw [hck, Bool.false_and, if_neg Bool.false_ne_true, List.append_nil] at hsb2
          have hs : True := trivial
          repeat' first | (with_reducible first | refine q01 ?_ | refine q04 ?_ | refine q11 ?_ | refine q12 ?_ | refine q14 ?_) | (with_reducible refine DT_regionE [0,1,2,6,7,9,10,11,12,13,14,15,16,17,20,21,22,23,36,37,38,40,41,42,51,63,64,65,66,74,75,76,77,104] ?_; simp -dsimp [hy, hlb, hwb, hq', hs]) | (refine DT_cond rfl (fun h => ?_) (fun h => ?_) <;> (try simp only [nrm] at h) <;> (try exact Bool.noConfusion h))
          all_goals try simp -dsimp [hy, hlb, hwb, hq', hs]
          all_goals try clear hs
          all_goals exact At.round ⟨(b + 1, g2, nl2), by simp only; omega⟩ (by simp only; omega) (Weak.of_drop [0,7,13,14,15,63,64,65,74,75,76] 4 (by simp) (by simp) (by simp [hsb2]))
        · have hq' : ((a : Int), (b : Int)) ∈ B := by simpa using hq
          rw [hq, Bool.true_and] at hck
          have hs : True := trivial
          repeat' first | (with_reducible first | refine q01 ?_ | refine q04 ?_ | refine q11 ?_ | refine q12 ?_ | refine q14 ?_ | refine And.intro (by omega) ?_) | (with_reducible refine DT_regionE [0,1,2,6,7,9,10,11,12,13,14,15,16,17,20,21,22,23,36,37,38,40,41,42,51,63,64,65,66,74,75,76,77,104] ?_; simp -dsimp [hy, hlb, hwb, hq', hs]) | (refine DT_cond rfl (fun h => ?_) (fun h => ?_) <;> (try simp only [nrm] at h) <;> (try exact Bool.noConfusion h)) | (with_reducible refine GStop_split ?_ ?_ <;> intro h <;> have h0 := h <;> (try simp only [nrm] at h) <;> (try exact Bool.noConfusion h) <;> have h2 := h <;> (try simp at h2) <;> (replace hs := And.intro h0 (And.intro h (And.intro h2 hs))) <;> simp -dsimp [h0, h, h2, hy, hlb, hwb, hq', hs])
          all_goals try simp -dsimp [hy, hlb, hwb, hq', hs]
          all_goals try clear hs
          · have hc : clOk n s w a b = true := by rw [hck]; simp only [Bool.and_eq_true, decide_eq_true_eq]; exact ⟨⟨by assumption, by assumption⟩, by assumption⟩
            rw [if_pos hc] at hsb2
            exact At.round ⟨(b + 1, g2 + 1, false), by simp only; omega⟩ (by simp only; omega) (Weak.of_drop [0,7,13,14,15,63,64,65,74,75,76] 4 (by simp) (by simp) (by simp [hsb2] <;> omega))
          all_goals
            have hc : clOk n s w a b = false := by rw [hck, ← Bool.not_eq_true]; simp only [Bool.and_eq_true, decide_eq_true_eq]; omega
            rw [hc, if_neg Bool.false_ne_true, List.append_nil] at hsb2
            exact At.round ⟨(b + 1, g2, nl2), by simp only; omega⟩ (by simp only; omega) (Weak.of_drop [0,7,13,14,15,63,64,65,74,75,76] 4 (by simp) (by simp) (by simp [hsb2] <;> omega))
      · obtain rfl : b = n.notes.length := by omega
        rw [← hsa]
        have hs : True := trivial
        repeat' first | (with_reducible first | refine q01 ?_ | refine q03 ?_ | refine q04 ?_ | refine q06 ?_ | refine q11 ?_ | refine q16 ?_) | (with_reducible refine DT_regionE [0,1,2,6,7,9,10,11,12,13,14,15,16,17,20,21,22,23,36,37,38,40,41,42,51,63,64,65,66,74,75,76,77,104] ?_; simp -dsimp [hlb, hwa, hs]) | (refine DT_cond rfl (fun h => ?_) (fun h => ?_) <;> (try simp only [nrm] at h) <;> (try exact Bool.noConfusion h))
        all_goals try simp -dsimp [hlb, hwa, hs]
        all_goals try clear hs
        all_goals exact At.round ⟨(a + 1, g2, nl2), by simp only; omega⟩ (by simp only; omega) (Weak.of_drop [0,7,13,63,64,65] 3 (by simp) (by simp) (by simp))
    · obtain rfl : a = n.notes.length := by omega
      have hs : True := trivial
      repeat' first | (with_reducible first | refine q01 ?_ | refine q03 ?_ | refine q06 ?_ | refine q11 ?_ | refine q16 ?_ | refine q17 ?_) | (with_reducible refine At.fn_ret (by simp -dsimp [hla, hs]; exact rfl) ?_) | (with_reducible refine DT_regionE [0,1,2,6,7,9,10,11,12,13,14,15,16,17,20,21,22,23,36,37,38,40,41,42,51,63,64,65,66,74,75,76,77,104] ?_; simp -dsimp [hla, hs]) | (refine DT_cond rfl (fun h => ?_) (fun h => ?_) <;> (try simp only [nrm] at h) <;> (try exact Bool.noConfusion h))
      all_goals try simp -dsimp [hla, hs]
      all_goals try clear hs
      all_goals simp [clashL]
end Go.Proofs
namespace Go.Proofs
open Go Go.Ab
def inTab (n : Notes) (s w : List Int) (M : List Int) (m : Int) (a b : Nat) (x y : Nat) : Prop := x < y ∧ y < n.notes.length ∧ ((∃ m' ∈ M, frcAt n s w m' x = true ∧ frcAt n s w m' y = true) ∨ ((x < a ∨ x = a ∧ y < b) ∧ frcAt n s w m x = true ∧ frcAt n s w m y = true))
structure Tspec (n : Notes) (s w : List Int) (M : List Int) (m : Int) (a b : Nat) (L : List Bool) : Prop where
  len : L.length = 144
  at' : ∀ x y : Nat, x < 12 → y < 12 → (L[x * 12 + y]? = some true ↔ inTab n s w M m a b x y)
theorem Tspec.start (n : Notes) (s w : List Int) (m : Int) : Tspec n s w [] m 0 0 (List.replicate 144 false) := ⟨by simp, fun x y hx hy => by
  have : x * 12 + y < 144 := by omega
  rw [List.getElem?_replicate, if_pos this]
  simp [inTab]⟩
theorem Tspec.mark {n : Notes} {s w : List Int} {M : List Int} {m m' : Int} {b : Nat} {L : List Bool} (h : Tspec n s w M m n.notes.length b L) : Tspec n s w (M ++ [m]) m' 0 0 L := ⟨h.len, fun x y hx hy => by
  rw [h.at' x y hx hy]
  simp only [inTab, List.mem_append, List.mem_singleton]
  constructor
  · rintro ⟨h1, h2, h3 | ⟨h3, h4⟩⟩
    · obtain ⟨z, hz, hh⟩ := h3
      exact ⟨h1, h2, .inl ⟨z, .inl hz, hh⟩⟩
    · exact ⟨h1, h2, .inl ⟨m, .inr rfl, h4⟩⟩
  · rintro ⟨h1, h2, h3 | ⟨h3, h4⟩⟩
    · obtain ⟨z, hz | rfl, hh⟩ := h3
      · exact ⟨h1, h2, .inl ⟨z, hz, hh⟩⟩
      · exact ⟨h1, h2, .inr ⟨.inl (by omega), hh⟩⟩
    · omega⟩
theorem Tspec.row {n : Notes} {s w : List Int} {M : List Int} {m : Int} {a : Nat} {L : List Bool} (h : Tspec n s w M m a n.notes.length L) : Tspec n s w M m (a + 1) 0 L := ⟨h.len, fun x y hx hy => by
  rw [h.at' x y hx hy]
  simp only [inTab]
  refine and_congr_right fun h1 => and_congr_right fun h2 => or_congr_right (and_congr_left fun _ => ?_)
  omega⟩
theorem Tspec.put {n : Notes} {s w : List Int} {M : List Int} {m : Int} {a b : Nat} {L : List Bool} (h : Tspec n s w M m a b L) (hab : a < b) (hb : b < n.notes.length) (hn : n.notes.length ≤ 12) {v : Bool} (hv : L[a * 12 + b]? = some v) : Tspec n s w M m a (b + 1) (L.set (a * 12 + b) (v || (frcAt n s w m a && frcAt n s w m b))) := ⟨by rw [List.length_set]; exact h.len, fun x y hx hy => by
  have ho := h.at' x y hx hy
  by_cases e : x = a ∧ y = b
  · obtain ⟨rfl, rfl⟩ := e
    have hl : x * 12 + y < L.length := by rw [h.len]; omega
    rw [List.getElem?_set_self hl]
    rw [hv] at ho
    simp only [Option.some.injEq, Bool.or_eq_true, Bool.and_eq_true] at ho ⊢
    rw [ho]
    simp only [inTab]
    constructor
    · rintro (⟨h1, h2, h3⟩ | h4)
      · exact ⟨h1, h2, h3.imp id fun h3 => ⟨by omega, h3.2⟩⟩
      · exact ⟨hab, hb, .inr ⟨by simp, h4⟩⟩
    · rintro ⟨h1, h2, h3 | ⟨h3, h4⟩⟩
      · exact .inl ⟨h1, h2, .inl h3⟩
      · exact .inr h4
  · have hne : a * 12 + b ≠ x * 12 + y := by omega
    rw [List.getElem?_set_ne hne, ho]
    simp only [inTab]
    refine and_congr_right fun h1 => and_congr_right fun h2 => or_congr_right (and_congr_left fun _ => ?_)
    omega⟩
theorem Tspec.both {n : Notes} {s w : List Int} {M : List Int} {m : Int} {L : List Bool} (h : Tspec n s w M m 0 0 L) (hM : ∀ m', m' ∈ M ↔ m' ∈ marksP n.notes) {a b : Nat} (hab : a < b) (hb : b < n.notes.length) (hn : n.notes.length ≤ 12) : L[a * 12 + b]? = some (bothB n s w a b) := by
  have ho := h.at' a b (by omega) (by omega)
  have hl : a * 12 + b < L.length := by rw [h.len]; omega
  rw [List.getElem?_eq_getElem hl] at ho ⊢
  congr 1
  rw [Bool.eq_iff_iff]
  rw [Option.some.injEq] at ho
  rw [ho]
  simp only [inTab, bothB, List.any_eq_true, Bool.and_eq_true]
  constructor
  · rintro ⟨_, _, h3 | h3⟩
    · obtain ⟨z, hz, hh⟩ := h3
      exact ⟨z, (hM z).1 hz, hh⟩
    · omega
  · rintro ⟨z, hz, hh⟩
    exact ⟨hab, hb, .inl ⟨z, (hM z).2 hz, hh⟩⟩
end Go.Proofs
namespace Go.Ab
open Go
def bcs (L : List Bool) : List DC := L.map fun b => .im (.raw (.bool b))
@[simp] theorem zcells_rep : ∀ (n k : Nat), zcells (List.replicate n (.bool false)) k = (List.replicate n (.im (.raw (.bool false))), [])
  | 0, _ => rfl
  | n + 1, k => by rw [List.replicate_succ, List.replicate_succ, zcells, zcells_rep n k]; exact fun h => by cases h
@[simp] theorem fz_bcs (m : Nat) (O : List DObj) (L : List Bool) : (bcs L).map (fz m O) = bcs L := by
  simp only [bcs, List.map_map]
  exact List.map_congr_left fun x _ => by simp [fz]
end Go.Ab
namespace Go.Proofs
open Go Go.Ab
variable {G : Nat → Option (List IC)}
end Go.Proofs
namespace Go.Proofs
open Go Go.Ab
variable {G : Nat → Option (List IC)}
def clashR (n : Notes) (s : List Int) : List (Int × Int) := if askedE n s 1 = 0 then clashL n s [] else []
theorem samePairs_c (l : List (Int × Int)) (hl : l.length < 1000000) (objs : List DObj) : DCall Tryz.prog G 46 [prv l, prv l] objs (fun rr objs' => rr = bv true ∧ objs' = objs) := by
  refine DCall.frame ?_ (by simp) (by simp) objs
  refine DCall_intro Tryz.func46 rfl Tryz.ntmps46 (by simp) rfl ?_
  try simp only [iv]
  simp only [prv, bv]
  have hs : True := trivial
  repeat' first | (with_reducible first | refine q01 ?_ | refine q11 ?_ | refine q12 ?_ | refine q14 ?_) | (with_reducible refine DT_regionE [0,1,4,5,10,14,25] ?_; simp -dsimp [hs]) | (refine DT_cond rfl (fun h => ?_) (fun h => ?_) <;> (try simp only [nrm] at h) <;> (try exact Bool.noConfusion h))
  all_goals try simp -dsimp [hs]
  all_goals try clear hs
  refine DT_loop (ι := { k : Nat // k ≤ l.length }) (fun p => ⟨26, [(0, prv l), (1, prv l), (5, iv (p.1 : Int))], []⟩) (fun p => l.length - p.1) ⟨0, by simp⟩ (Weak.of_keep [0,1,5] (by simp)) ?_
  rintro ⟨k, hk⟩
  simp only [iv, prv]
  by_cases hlt : k < l.length
  · have hw : IntKind.i64.wrap ((k : Int) + 1) = ((k + 1 : Nat) : Int) := i64w (by omega) (by omega)
    generalize hx : l[k] = x
    obtain ⟨x1, x2⟩ := x
    have hs : True := trivial
    repeat' first | (with_reducible first | refine q01 ?_ | refine q04 ?_ | refine q11 ?_ | refine q12 ?_ | refine q14 ?_) | (refine DT_regionM (id := 6) (nt := 26) 9 [0,1,4,5,10,14,25] mixed rfl (by kernel_rfl) ?_; simp -dsimp [hx, hlt, hw, hs]) | (with_reducible refine DT_regionE [0,1,4,5,10,14,25] ?_; simp -dsimp [hx, hlt, hw, hs]) | (refine DT_cond rfl (fun h => ?_) (fun h => ?_) <;> (try simp only [nrm] at h) <;> (try exact Bool.noConfusion h))
    all_goals try simp -dsimp [hx, hlt, hw, hs]
    all_goals try clear hs
    exact At.round ⟨k + 1, by omega⟩ (by simp; omega) (Weak.of_keep [0,1,5] (by simp))
  · have hs : True := trivial
    repeat' first | (with_reducible first | refine q01 ?_ | refine q03 ?_ | refine q06 ?_ | refine q11 ?_ | refine q16 ?_ | refine q17 ?_) | (with_reducible refine At.fn_ret (by simp -dsimp [hlt, hs]; exact rfl) ?_) | (with_reducible refine DT_regionE [0,1,4,5,10,14,25] ?_; simp -dsimp [hlt, hs]) | (refine DT_cond rfl (fun h => ?_) (fun h => ?_) <;> (try simp only [nrm] at h) <;> (try exact Bool.noConfusion h))
    all_goals try simp -dsimp [hlt, hs]
    all_goals try clear hs
end Go.Proofs
namespace Go.Proofs
open Go Go.Ab
variable {G : Nat → Option (List IC)}
theorem nClash_c (n : Notes) (s : List Int) (hG : sheetG G) (hN : noteG G) (hS : SortOk G) (hs : NSm n) (hsl : s.length < 1000) (objs : List DObj) : DCall Tryz.prog G 32 [notesv n, isv s] objs (fun rr objs' => rr = .tup [prv (clashR n s), iv (askedE n s 1)] ∧ objs' = objs) := by
  refine DCall.frame ?_ (by simp) (by simp) objs
  refine DCall_intro Tryz.func32 rfl Tryz.ntmps32 (by simp) rfl ?_
  try simp only [notesv, isv]
  have c1 := asked_c n s 1 hG hN hS hs hsl
  unfold clashR
  by_cases h0 : askedE n s 1 = 0
  · rw [h0, show askedR n s 1 = .one (.im (fileI n)) by unfold askedR; rw [if_pos h0]] at c1
    have hnk := notes_ok (asked_ok h0).1
    have c2 := clash_c (G := G) n s [] hS hnk.2.2.1 (by omega) hsl (by simp)
    simp only [fileI, isv, iv, List.map_nil] at c1 c2
    rw [if_pos h0]
    have hs : True := trivial
    repeat' first | (with_reducible first | refine q01 ?_ | refine q11 ?_ | refine q14 ?_ | refine q17 ?_) | (with_reducible refine At.fn_ret (by simp -dsimp [hs]; exact rfl) ?_) | (refine CallE.pure (c1) ?_; try simp -dsimp [hs]) | (refine CallE.pure (c2) ?_; try simp -dsimp [hs]) | (with_reducible refine DT_regionE [0,1,2,4,5,6,7,15] ?_; simp -dsimp [hs]) | (refine DT_cond rfl (fun h => ?_) (fun h => ?_) <;> (try simp only [nrm] at h) <;> (try exact Bool.noConfusion h))
    all_goals try simp -dsimp [hs]
    all_goals try clear hs
    all_goals simp [h0]
  · rw [show askedR n s 1 = .one (.im (.raw (.pointer none))) by unfold askedR; rw [if_neg h0]] at c1
    rw [if_neg h0]
    simp only [isv, iv] at c1
    have hs : True := trivial
    repeat' first | (with_reducible first | refine q01 ?_ | refine q02 ?_ | refine q11 ?_ | refine q17 ?_) | (with_reducible refine At.fn_ret (by simp -dsimp [h0, hs]; exact rfl) ?_) | (refine CallE.pure (c1) ?_; try simp -dsimp [h0, hs]) | (with_reducible refine DT_regionE [0,1,2,4,5,6,7,15] ?_; simp -dsimp [h0, hs]) | (refine DT_cond rfl (fun h => ?_) (fun h => ?_) <;> (try simp only [nrm] at h) <;> (try exact Bool.noConfusion h))
    all_goals try simp -dsimp [h0, hs]
    all_goals try clear hs
    all_goals simp [h0]
end Go.Proofs
namespace Go.Ab
open Go
end Go.Ab
namespace Go.Proofs
open Go Go.Ab
variable {G : Nat → Option (List IC)}
end Go.Proofs
namespace Go.Ab
open Go
end Go.Ab
namespace Go.Proofs
open Go Go.Ab
variable {G : Nat → Option (List IC)}
end Go.Proofs
namespace Go.Ab
open Go
end Go.Ab
namespace Go.Proofs
open Go Go.Ab
variable {G : Nat → Option (List IC)}
end Go.Proofs
namespace Go.Proofs
open Go Go.Ab
end Go.Proofs
namespace Go.Proofs
open Go Go.Ab
def clN (n : Notes) (s L : List Int) : Bool := decide ((clashL n s L).length = 0)
def wS (n : Notes) (s : List Int) : List Int := (sizesL (clN n s) (isort (n.notes.map fun x => x.number)) (n.notes.length + 1)).getD []
end Go.Proofs
