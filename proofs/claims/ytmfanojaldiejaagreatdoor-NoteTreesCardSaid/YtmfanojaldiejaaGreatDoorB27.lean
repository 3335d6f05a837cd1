/- Part 27 of the proofs: laws and walks that hold without conditions beyond those that each theorem names. -/
import Derived.Test.YtmfanojaldiejaaGreatDoorRows
import Derived.Test.YtmfanojaldiejaaGreatDoorB13
import Derived.Test.YtmfanojaldiejaaGreatDoorB18
import Derived.Test.YtmfanojaldiejaaGreatDoorB20
import Derived.Test.YtmfanojaldiejaaGreatDoorB21
import Derived.Test.YtmfanojaldiejaaGreatDoorB22
import Derived.Test.YtmfanojaldiejaaGreatDoorB24
import Derived.Test.YtmfanojaldiejaaGreatDoorB25
import Derived.Test.YtmfanojaldiejaaGreatDoorB26
set_option linter.all false
set_option linter.deprecated false
namespace Go.Proofs
open Go Go.Ab
variable {G : Nat → Option (List IC)}
attribute [simp] permL reO gones noLoop nilV nilX
theorem cloneN_c (l : List Int) (hl : l.length < 1000) : DCall Tryz.prog G 72 [isv l] [] (fun d o => ∃ i : Nat × Bool, (i.2 = true → l = []) ∧ d = .one (.vec 1 i.1 0 l.length) ∧ o = [.vec 1 [] 0 true, .vec 1 (ims (l.map encI)) i.1 i.2]) := by
  refine DCall_intro Tryz.func72 rfl Tryz.ntmps72 (by simp) rfl ?_
  simp only [isv]
  have hs : True := trivial
  repeat' first | (with_reducible first | refine q01 ?_ | refine q02 ?_ | refine q11 ?_ | refine q14 ?_ | refine q17 ?_ | refine And.intro (by omega) ?_) | (with_reducible refine At.fn_ret (by simp -dsimp [hs]; exact rfl) ?_) | (with_reducible refine DT_regionE [0,2,4] ?_; simp -dsimp [hs]) | (refine DT_cond rfl (fun h => ?_) (fun h => ?_) <;> (try simp only [nrm] at h) <;> (try exact Bool.noConfusion h)) | (with_reducible refine imp_At (fun h => ?_); (try simp only [List.map_eq_nil_iff] at h); (try subst h); try simp -dsimp [hs]) | with_reducible refine And.intro ?_ ?_
  all_goals try simp -dsimp [hs]
  all_goals try clear hs
def wObjs (n : Notes) (s A : List Int) (g sz : Nat) (nl : Bool) : List DObj := [.row [.im (fileI n)], .row [.im (.sl (s.map encI))], .row [.vec 3 g 0 A.length], .vec sz (ims (A.map encI)) g nl, .row [.fn (.func 70) [.ptr 0 0, .ptr 1 0, .ptr 2 0, .ptr 4 0]]]
theorem list_c (n : Notes) (s A : List Int) (g sz : Nat) (nl : Bool) (hz : (sz = 1 ∧ nl = false) ∨ A = []) (hS : SortOk G) (hok : allOk n) (hn : n.notes.length ≤ 16) (hsl : s.length < 1000) (hA : A.length ≤ 16) : ∀ (k fr : Nat) (l : List Int), fr ≤ A.length → l.length + k ≤ 16 →
    DCall Tryz.prog G 70 [iv (fr : Int), iv (k : Int), isv l, .one (.ptr 0 0), .one (.ptr 1 0), .one (.ptr 2 0), .one (.ptr 4 0)] (wObjs n s A g sz nl) (fun d o => d = resV (findL (clN n s) (A.drop fr) k l) ∧ o = wObjs n s A g sz nl) := by
  intro k
  induction k with
  | zero =>
    intro fr l hfr hll
    have c1 := clash_c (G := G) n s l hS hok hn hsl (by omega)
    have e : findL (clN n s) (A.drop fr) 0 l = if (clashL n s l).length = 0 then some l else none := by rw [findL_zero]; simp [clN]
    refine DCall.drop (DCall.nil ?_)
    refine DCall_intro Tryz.func70 rfl Tryz.ntmps70 (by simp) rfl ?_
    simp only [iv, isv, wObjs, fileI] at c1 ⊢
    rw [e]
    generalize clashL n s l = C at *
    by_cases hC : C.length = 0
    · have hs : True := trivial
      repeat' first | (with_reducible first | refine q01 ?_ | refine q02 ?_ | refine q11 ?_ | refine q17 ?_) | (with_reducible refine At.fn_ret (by simp -dsimp [hC, hs]; exact rfl) ?_) | (refine CallE.pure (c1) ?_; try simp -dsimp [hC, hs]) | (with_reducible refine DT_regionE [0,1,2,3,4,5,6,10,11,12,14,20,28,46] ?_; simp -dsimp [hC, hs]) | (refine DT_cond rfl (fun h => ?_) (fun h => ?_) <;> (try simp only [nrm] at h) <;> (try exact Bool.noConfusion h)) | with_reducible refine And.intro ?_ ?_
      all_goals try simp -dsimp [hC, hs]
      all_goals try clear hs
      all_goals simp [resV]
    · have hC' : ¬ ((C.length : Int) = 0) := by omega
      have hs : True := trivial
      repeat' first | (with_reducible first | refine q01 ?_ | refine q02 ?_ | refine q11 ?_ | refine q14 ?_ | refine q17 ?_) | (with_reducible refine At.fn_ret (by simp -dsimp [hC, hC', hs]; exact rfl) ?_) | (refine CallE.pure (c1) ?_; try simp -dsimp [hC, hC', hs]) | (with_reducible refine DT_regionE [0,1,2,3,4,5,6,10,11,12,14,20,28,46] ?_; simp -dsimp [hC, hC', hs]) | (refine DT_cond rfl (fun h => ?_) (fun h => ?_) <;> (try simp only [nrm] at h) <;> (try exact Bool.noConfusion h)) | with_reducible refine And.intro ?_ ?_
      all_goals try simp -dsimp [hC, hC', hs]
      all_goals try clear hs
      all_goals simp [resV]
  | succ k ih =>
    intro fr l hfr hll
    have hk0 : ¬ (k : Int) + 1 = 0 := by omega
    have hcl := cloneN_c (G := G) l (by omega)
    refine DCall.drop (DCall.nil ?_)
    refine DCall_intro Tryz.func70 rfl Tryz.ntmps70 (by simp) rfl ?_
    rw [show ((k + 1 : Nat) : Int) = (k : Int) + 1 from rfl]
    simp only [iv, isv, wObjs, fileI] at ih hcl ⊢
    have hs : True := trivial
    repeat' first | (with_reducible first | refine q01 ?_ | refine q11 ?_ | refine q12 ?_ | refine q14 ?_) | (with_reducible refine DT_regionE [0,1,2,3,4,5,6,10,11,12,14,20,28,46] ?_; simp -dsimp [hk0, hs]) | (refine DT_cond rfl (fun h => ?_) (fun h => ?_) <;> (try simp only [nrm] at h) <;> (try exact Bool.noConfusion h))
    all_goals try simp -dsimp [hk0, hs]
    all_goals try clear hs
    refine DT_loop (ι := { i : Nat // fr ≤ i ∧ i ≤ A.length ∧ findL (clN n s) (A.drop fr) (k + 1) l = findL (clN n s) (A.drop i) (k + 1) l }) (fun p => ⟨48, [(1, iv ((k : Int) + 1)), (2, isv l), (3, .one (.ptr 0 0)), (4, .one (.ptr 1 0)), (5, .one (.ptr 2 0)), (6, .one (.ptr 4 0)), (11, iv (p.1 : Int))], wObjs n s A g sz nl⟩) (fun p => A.length - p.1) ⟨fr, Nat.le_refl _, hfr, rfl⟩ (Weak.of_drop [1,2,3,4,5,6,11] 5 (by simp) (by simp) (by simp [wObjs, fileI])) ?_
    rintro ⟨i, hfi, hiA, hf⟩
    simp only [iv, isv, wObjs, fileI]
    have hw1 : IntKind.i64.wrap ((i : Int) + ((k : Int) + 1)) = (i : Int) + ((k : Int) + 1) := i64w (by omega) (by omega)
    by_cases hlt : i + (k + 1) ≤ A.length
    · have hlti : (i : Int) + ((k : Int) + 1) ≤ A.length := by omega
      have hiL : i < A.length := by omega
      obtain ⟨rfl, rfl⟩ := hz.resolve_right (fun e => by rw [e] at hiL; simp at hiL)
      have hw2 : IntKind.i64.wrap ((i : Int) + 1) = ((i + 1 : Nat) : Int) := i64w (by omega) (by omega)
      have hw3 : IntKind.i64.wrap (k : Int) = k := i64w (by omega) (by omega)
      have hat := findL_at (p := clN n s) (k := k) (l := l) hiL
      have c2 := ih (i + 1) (l ++ [A[i]]) (by omega) (by simp; omega)
      generalize hx : A[i] = x at *
      generalize hF : findL (clN n s) (A.drop (i + 1)) k (l ++ [x]) = r at *
      have hfz : ∀ (m : Nat) (O : List DObj), mapO (mapO (frz 19 m O)) (List.take (l.length + 1) (ims (l.map encI) ++ [[DC.im (.raw (.int .i64 x))]])) = some (l.map encI ++ [[.raw (.int .i64 x)]]) := fun m O => by
        rw [List.take_of_length_le (by simp), show ims (l.map encI) ++ [[DC.im (.raw (.int .i64 x))]] = ims (l.map encI ++ [[.raw (.int .i64 x)]]) by simp]
        exact mapO_ims _ _ _ _
      cases r with
      | none =>
        simp only [resV] at c2
        have hs : True := trivial
        repeat' first | (with_reducible first | refine q01 ?_ | refine q04 ?_ | refine q11 ?_ | refine q12 ?_ | refine q14 ?_ | refine And.intro (by omega) ?_) | (refine DT_regionY (id := 8) (nt := 48) [0,1,2,3,4,5,7,8,9,10,11,6,12,13,14] 11 [0,1,2,3,4,6,7,8,9,10] [0,1,2,3,4] [0,1,2,3,4,5,6,10,11,12,14,20,28,36,46] [0,1,2,3,4,5,6,10,11,12,14,20,28,37,42,46] [0,1,2,3,4,5,6,10,11,12,14,20,28,46] mixed rfl (by kernel_rfl) (by kernel_rfl) ?_; try simp -dsimp [hw1, hw2, hw3, hlti, hiL, hx, hs]) | (refine CallE.embed_ex [] (hcl) ?_ ?_ ?_ ?_ ?_ ?_; (focus (simp [emb]; done)); (focus (simp; done)); (focus (simp; done)); (focus (simp; done)); (focus (refine emb_all ?_; simp [emb, embAll]; done)); intro mm hmm; try simp -dsimp [mergeO, emb, hw1, hw2, hw3, hlti, hiL, hx, hs]) | (refine CallE.idle ?_; refine CallE.freeze 5 c2 ?_ ?_ ?_ ?_ ?_ ?_; (focus (simp; done)); (focus (simp [hfz]; done)); (focus (simp; done)); (focus rfl); (focus (simp; done)); try simp; try simp -dsimp [hw1, hw2, hw3, hlti, hiL, hx, hs]) | (with_reducible refine DT_regionE [0,1,2,3,4,5,6,10,11,12,14,20,28,46] ?_; simp -dsimp [hw1, hw2, hw3, hlti, hiL, hx, hs]) | (refine DT_cond rfl (fun h => ?_) (fun h => ?_) <;> (try simp only [nrm] at h) <;> (try exact Bool.noConfusion h))
        all_goals try simp -dsimp [hw1, hw2, hw3, hlti, hiL, hx, hs]
        all_goals try clear hs
        all_goals exact At.round ⟨i + 1, by omega, by omega, by rw [hf, hat]⟩ (by simp only; omega) (Weak.of_drop [1,2,3,4,5,6,11] 5 (by simp) (by simp) (by simp [wObjs, fileI]))
      | some y =>
        have hy : y ≠ [] := fun e => by
          have := findL_len _ _ _ _ hF
          rw [e] at this; simp only [List.length_nil, List.length_append, List.length_cons] at this; omega
        simp only [resV, isv] at c2
        have hs : True := trivial
        repeat' first | (with_reducible first | refine q01 ?_ | refine q02 ?_ | refine q05 ?_ | refine q11 ?_ | refine q12 ?_ | refine q14 ?_ | refine q17 ?_ | refine And.intro (by omega) ?_) | (with_reducible refine At.fn_ret (by simp -dsimp [hw1, hw2, hw3, hlti, hiL, hx, hy, hs]; exact rfl) ?_) | (refine DT_regionY (id := 8) (nt := 48) [0,1,2,3,4,5,7,8,9,10,11,6,12,13,14] 11 [0,1,2,3,4,6,7,8,9,10] [0,1,2,3,4] [0,1,2,3,4,5,6,10,11,12,14,20,28,36,46] [0,1,2,3,4,5,6,10,11,12,14,20,28,37,42,46] [0,1,2,3,4,5,6,10,11,12,14,20,28,46] mixed rfl (by kernel_rfl) (by kernel_rfl) ?_; try simp -dsimp [hw1, hw2, hw3, hlti, hiL, hx, hy, hs]) | (refine CallE.embed_ex [] (hcl) ?_ ?_ ?_ ?_ ?_ ?_; (focus (simp [emb]; done)); (focus (simp; done)); (focus (simp; done)); (focus (simp; done)); (focus (refine emb_all ?_; simp [emb, embAll]; done)); intro mm hmm; try simp -dsimp [mergeO, emb, hw1, hw2, hw3, hlti, hiL, hx, hy, hs]) | (refine CallE.freeze 5 c2 ?_ ?_ ?_ ?_ ?_ ?_; (focus (simp; done)); (focus (simp [hfz]; done)); (focus (simp; done)); (focus rfl); (focus (simp; done)); try simp; try simp -dsimp [hw1, hw2, hw3, hlti, hiL, hx, hy, hs]) | (with_reducible refine DT_regionE [0,1,2,3,4,5,6,10,11,12,14,20,28,46] ?_; simp -dsimp [hw1, hw2, hw3, hlti, hiL, hx, hy, hs]) | (refine DT_cond rfl (fun h => ?_) (fun h => ?_) <;> (try simp only [nrm] at h) <;> (try exact Bool.noConfusion h)) | with_reducible refine And.intro ?_ ?_
        all_goals try simp -dsimp [hw1, hw2, hw3, hlti, hiL, hx, hy, hs]
        all_goals try clear hs
        all_goals simp [hf, hat, resV]
    · have hlti : ¬ (i : Int) + ((k : Int) + 1) ≤ A.length := by omega
      have hno : findL (clN n s) (A.drop fr) (k + 1) l = none := by rw [hf]; exact findL_short _ _ _ (by simp; omega)
      have hs : True := trivial
      repeat' first | (with_reducible first | refine q01 ?_ | refine q03 ?_ | refine q06 ?_ | refine q11 ?_ | refine q16 ?_ | refine q17 ?_) | (with_reducible refine At.fn_ret (by simp -dsimp [hw1, hlti, hs]; exact rfl) ?_) | (with_reducible refine DT_regionE [0,1,2,3,4,5,6,10,11,12,14,20,28,46] ?_; simp -dsimp [hw1, hlti, hs]) | (refine DT_cond rfl (fun h => ?_) (fun h => ?_) <;> (try simp only [nrm] at h) <;> (try exact Bool.noConfusion h)) | with_reducible refine And.intro ?_ ?_
      all_goals try simp -dsimp [hw1, hlti, hs]
      all_goals try clear hs
      all_goals simp [hno, resV]
theorem listB_c (n : Notes) (s A : List Int) (g sz : Nat) (nl : Bool) (hS : SortOk G) (hok : allOk n) (hn : n.notes.length ≤ 16) (hsl : s.length < 1000) :
    DCall Tryz.prog G 70 [iv 0, iv 0, .one (.vec 5 0 0 0), .one (.ptr 0 0), .one (.ptr 1 0), .one (.ptr 2 0), .one (.ptr 4 0)] (wObjs n s A g sz nl ++ [.vec 1 [] 0 false]) (fun d o => d = (if (clashL n s []).length = 0 then .one (.vec 5 0 0 0) else .one (.im (.raw (.slice none 0 0)))) ∧ o = wObjs n s A g sz nl ++ [.vec 1 [] 0 false]) := by
  have c1 := clash_c (G := G) n s [] hS hok hn hsl (by simp)
  refine DCall.drop (DCall.nil ?_)
  refine DCall_intro Tryz.func70 rfl Tryz.ntmps70 (by simp) rfl ?_
  simp only [iv, isv, wObjs, fileI, List.map_nil] at c1 ⊢
  generalize clashL n s [] = C at *
  by_cases hC : C.length = 0
  · have hs : True := trivial
    repeat' first | (with_reducible first | refine q01 ?_ | refine q02 ?_ | refine q11 ?_ | refine q17 ?_) | (with_reducible refine At.fn_ret (by simp -dsimp [hC, hs]; exact rfl) ?_) | (refine CallE.empty ?_ (CallE.pure c1 ?_); (focus rfl); try simp -dsimp [hC, hs]) | (with_reducible refine DT_regionE [0,1,2,3,4,5,6,10,11,12,14,20,28,46] ?_; simp -dsimp [hC, hs]) | (refine DT_cond rfl (fun h => ?_) (fun h => ?_) <;> (try simp only [nrm] at h) <;> (try exact Bool.noConfusion h)) | with_reducible refine And.intro ?_ ?_
    all_goals try simp -dsimp [hC, hs]
    all_goals try clear hs
  · have hC' : ¬ ((C.length : Int) = 0) := by omega
    have hs : True := trivial
    repeat' first | (with_reducible first | refine q01 ?_ | refine q02 ?_ | refine q11 ?_ | refine q14 ?_ | refine q17 ?_) | (with_reducible refine At.fn_ret (by simp -dsimp [hC, hC', hs]; exact rfl) ?_) | (refine CallE.empty ?_ (CallE.pure c1 ?_); (focus rfl); try simp -dsimp [hC, hC', hs]) | (with_reducible refine DT_regionE [0,1,2,3,4,5,6,10,11,12,14,20,28,46] ?_; simp -dsimp [hC, hC', hs]) | (refine DT_cond rfl (fun h => ?_) (fun h => ?_) <;> (try simp only [nrm] at h) <;> (try exact Bool.noConfusion h)) | with_reducible refine And.intro ?_ ?_
    all_goals try simp -dsimp [hC, hC', hs]
    all_goals try clear hs
end Go.Proofs
namespace Go.Proofs
open Go Go.Ab
variable {G : Nat → Option (List IC)}
def nbrL (l : List Note) : List Int := l.map fun x => x.number
def wE (n : Notes) (s : List Int) : List Int := if askedE n s 1 = 0 then wS n s else []
theorem isort_length (l : List Int) : (isort l).length = l.length := (List.mergeSort_perm l _).length_eq
theorem nbrL_len (l : List Note) : (nbrL l).length = l.length := by simp [nbrL]
set_option maxHeartbeats 4000000 in
theorem nWithdraw_c (n : Notes) (s : List Int) (hG : sheetG G) (hN : noteG G) (hS : SortOk G) (hs : NSm n) (hsl : s.length < 1000) (objs : List DObj) : DCall Tryz.prog G 31 [notesv n, isv s] objs (fun rr objs' => rr = .tup [isv (wE n s), iv (askedE n s 1)] ∧ objs' = objs) := by
  refine DCall.frame ?_ (by simp) (by simp) objs
  refine DCall_intro Tryz.func31 rfl Tryz.ntmps31 (by simp) rfl ?_
  try simp only [notesv, isv]
  have c1 := asked_c n s 1 hG hN hS hs hsl
  by_cases h0 : askedE n s 1 = 0
  · rw [h0, show askedR n s 1 = .one (.im (fileI n)) by unfold askedR; rw [if_pos h0]] at c1
    have hnk := notes_ok (asked_ok h0).1
    have hlen := hnk.2.1
    have hsr : wE n s = (sizesL (clN n s) (isort (n.notes.map fun x => x.number)) (n.notes.length + 1)).getD [] := by unfold wE wS; rw [if_pos h0]
    simp only [fileI, isv, iv, List.map_nil] at c1
    have hs : True := trivial
    repeat' first | (with_reducible first | refine q01 ?_ | refine q11 ?_ | refine q12 ?_ | refine q14 ?_) | (refine CallE.pure (c1) ?_; try simp -dsimp [hs]) | (with_reducible refine DT_regionE [0,1,2,3,4,5,6,7,8,10,11,12,13,21,24,25,26,27,41,42,43,50] ?_; simp -dsimp [hs]) | (refine DT_cond rfl (fun h => ?_) (fun h => ?_) <;> (try simp only [nrm] at h) <;> (try exact Bool.noConfusion h))
    all_goals try simp -dsimp [hs]
    all_goals try clear hs
    refine DT_loop (ι := { p : Nat × Nat × Nat × Bool // p.1 ≤ n.notes.length ∧ ((p.2.2.1 = 1 ∧ p.2.2.2 = false) ∨ (p.2.2.1 = 0 ∧ p.2.2.2 = true ∧ p.1 = 0)) }) (fun p => ⟨53, [(3, .one (.ptr 1 0)), (4, .one (.vec 2 0 0 0)), (5, iv 0), (6, .one (.ptr 3 0)), (8, .one (.ptr 5 0)), (24, .one (.im (.sl (n.notes.map encNote)))), (25, iv (n.notes.length : Int)), (26, iv (p.1.1 : Int))], [.row [.im (.sl (n.reg.map encIssue)), .im (.sl (n.notes.map encNote))], .row [.im (.sl (s.map encI))], .vec 1 [] 0 true, .row [.im (fileI n)], .vec p.1.2.2.1 (ims ((nbrL (n.notes.take p.1.1)).map encI)) p.1.2.1 p.1.2.2.2, .row [.vec 4 p.1.2.1 0 p.1.1]]⟩) (fun p => n.notes.length - p.1.1) ⟨(0, 0, 0, true), by simp⟩ (Weak.of_keep [3,4,5,6,8,24,25,26] (by simp [fileI, nbrL])) ?_
    rintro ⟨⟨k, g, sz, nl⟩, hk, hz⟩
    simp only at hk hz
    simp only [iv, fileI]
    by_cases hlt : k < n.notes.length
    · have hw : IntKind.i64.wrap ((k : Int) + 1) = ((k + 1 : Nat) : Int) := i64w (by omega) (by omega)
      have htk : nbrL (n.notes.take (k + 1)) = nbrL (n.notes.take k) ++ [n.notes[k].number] := by rw [List.take_succ_eq_append_getElem hlt]; simp only [nbrL, List.map_append, List.map_cons, List.map_nil]
      have hll : (nbrL (n.notes.take k)).length = k := by rw [nbrL_len]; simp; omega
      generalize hx : n.notes[k] = x at *
      generalize nbrL (n.notes.take k) = L at *
      rcases hz with ⟨rfl, rfl⟩ | ⟨rfl, rfl, rfl⟩
      · subst hll
        have hs : True := trivial
        repeat' first | (with_reducible first | refine q01 ?_ | refine q04 ?_ | refine q11 ?_ | refine q12 ?_ | refine q14 ?_ | refine And.intro (by omega) ?_) | (with_reducible refine DT_regionE [0,1,2,3,4,5,6,7,8,10,11,12,13,21,24,25,26,27,41,42,43,50] ?_; simp -dsimp [hx, hlt, hw, hs]) | (refine DT_cond rfl (fun h => ?_) (fun h => ?_) <;> (try simp only [nrm] at h) <;> (try exact Bool.noConfusion h))
        all_goals try simp -dsimp [hx, hlt, hw, hs]
        all_goals try clear hs
        all_goals exact At.round ⟨(L.length + 1, g + 1, 1, false), by omega, .inl ⟨rfl, rfl⟩⟩ (by simp only; omega) (Weak.of_drop [3,4,5,6,8,24,25,26] 6 (by simp) (by simp) (by simp [htk, fileI]))
      · obtain rfl := List.eq_nil_of_length_eq_zero hll
        have hw1 : IntKind.i64.wrap 1 = 1 := i64w (by omega) (by omega)
        have hs : True := trivial
        repeat' first | (with_reducible first | refine q01 ?_ | refine q04 ?_ | refine q11 ?_ | refine q12 ?_ | refine q14 ?_) | (with_reducible refine DT_regionE [0,1,2,3,4,5,6,7,8,10,11,12,13,21,24,25,26,27,41,42,43,50] ?_; simp -dsimp [hx, hlt, hw, hw1, hs]) | (refine DT_cond rfl (fun h => ?_) (fun h => ?_) <;> (try simp only [nrm] at h) <;> (try exact Bool.noConfusion h))
        all_goals try simp -dsimp [hx, hlt, hw, hw1, hs]
        all_goals try clear hs
        all_goals exact At.round ⟨(1, g + 1, 1, false), by omega, .inl ⟨rfl, rfl⟩⟩ (by simp only; omega) (Weak.of_drop [3,4,5,6,8,24,25,26] 6 (by simp) (by simp) (by simp [htk, fileI, hw1]))
    · obtain rfl : k = n.notes.length := by omega
      rw [List.take_of_length_le (Nat.le_refl _)]
      have hL : (nbrL n.notes).length = n.notes.length := nbrL_len _
      have hz1 : sz = 1 ∨ nl = true ∧ nbrL n.notes = [] := hz.imp And.left fun h => ⟨h.2.1, List.eq_nil_of_length_eq_zero (by omega)⟩
      have hz2 : (sz = 1 ∧ nl = false) ∨ isort (nbrL n.notes) = [] := hz.imp id fun h => List.eq_nil_of_length_eq_zero (by rw [isort_length]; omega)
      have hAl : (isort (nbrL n.notes)).length = n.notes.length := by rw [isort_length, hL]
      have c2 := hS (nbrL n.notes) g sz nl hz1 (by omega)
      rw [show (n.notes.map fun x => x.number) = nbrL n.notes from rfl] at hsr
      have c3 := listB_c n s (isort (nbrL n.notes)) g sz nl hS hnk.2.2.1 (by omega) hsl
      have c4 := fun k hk => list_c n s (isort (nbrL n.notes)) g sz nl hz2 hS hnk.2.2.1 (by omega) hsl (by omega) k 0 [] (by omega) hk
      rw [hL] at c2
      generalize hA : isort (nbrL n.notes) = A at *
      simp only [wObjs, hAl, fileI, iv, isv, List.map_nil, List.length_nil, List.drop_zero] at c3 c4
      have hwl : IntKind.i64.wrap ((n.notes.length : Int) + 1) = (n.notes.length : Int) + 1 := i64w (by omega) (by omega)
      have hs : True := trivial
      repeat' first | (with_reducible first | refine q01 ?_ | refine q03 ?_ | refine q06 ?_ | refine q11 ?_ | refine q12 ?_ | refine q16 ?_) | (refine CallE.embed [4] (c2) ?_ ?_ ?_ ?_ ?_ ?_; (focus (simp [emb]; done)); (focus (simp; done)); (focus (simp; done)); (focus (simp; done)); (focus (refine emb_all ?_; simp [emb, embAll]; done)); try simp -dsimp [mergeO, emb, hlt, hwl, hs]) | (with_reducible refine DT_regionE [0,1,2,3,4,5,6,7,8,10,11,12,13,21,24,25,26,27,41,42,43,50] ?_; simp -dsimp [hlt, hwl, hs]) | (refine DT_cond rfl (fun h => ?_) (fun h => ?_) <;> (try simp only [nrm] at h) <;> (try exact Bool.noConfusion h))
      all_goals try simp -dsimp [hlt, hwl, hs]
      all_goals try clear hs
      refine DT_loop (ι := { k : Nat // k ≤ n.notes.length + 1 ∧ sizesL (clN n s) A k = none }) (fun p => ⟨53, [(4, .one (.vec 2 0 0 0)), (5, iv 0), (11, .one (.ptr 6 0)), (41, iv ((n.notes.length : Int) + 1)), (42, iv (p.1 : Int))], [.row [.im (.sl (n.reg.map encIssue)), .im (.sl (n.notes.map encNote))], .row [.im (.sl (s.map encI))], .vec 1 [] 0 true, .row [.im (fileI n)], .vec sz (ims (A.map encI)) g nl, .row [.vec 4 g 0 n.notes.length], .row [.fn (.func 70) [.ptr 3 0, .ptr 1 0, .ptr 5 0, .ptr 6 0]]]⟩) (fun p => n.notes.length + 1 - p.1) ⟨0, by simp, rfl⟩ (Weak.of_keep [4,5,11,41,42] (by simp [fileI, hwl])) ?_
      rintro ⟨k, hk, hn0⟩
      simp only [iv, fileI]
      by_cases hlk : k < n.notes.length + 1
      · have hlki : (k : Int) < (n.notes.length : Int) + 1 := by omega
        have hw : IntKind.i64.wrap ((k : Int) + 1) = ((k + 1 : Nat) : Int) := i64w (by omega) (by omega)
        have hnx := sizesL_next hn0
        by_cases hk0 : k = 0
        · subst hk0
          have hf0 : findL (clN n s) A 0 [] = if (clashL n s []).length = 0 then some [] else none := by rw [findL_zero]; simp [clN]
          by_cases hC : (clashL n s []).length = 0
          · rw [if_pos hC] at c3 hf0
            have hR : wE n s = [] := by rw [hsr, sizesL_hit hn0 hf0 (by omega)]; rfl
            have hs : True := trivial
            repeat' first | (with_reducible first | refine q01 ?_ | refine q02 ?_ | refine q05 ?_ | refine q11 ?_ | refine q12 ?_ | refine q14 ?_ | refine q17 ?_) | (with_reducible refine At.fn_ret (by simp -dsimp [hlki, hs]; exact rfl) ?_) | (refine CallE.embed [3,1,5,4,6,7] (c3) ?_ ?_ ?_ ?_ ?_ ?_; (focus (simp [emb]; done)); (focus (simp; done)); (focus (simp; done)); (focus (simp; done)); (focus (refine emb_all ?_; simp [emb, embAll]; done)); try simp -dsimp [mergeO, emb, hlki, hs]) | (with_reducible refine DT_regionE [0,1,2,3,4,5,6,7,8,10,11,12,13,21,24,25,26,27,41,42,43,50] ?_; simp -dsimp [hlki, hs]) | (refine DT_cond rfl (fun h => ?_) (fun h => ?_) <;> (try simp only [nrm] at h) <;> (try exact Bool.noConfusion h))
            all_goals try simp -dsimp [hlki, hs]
            all_goals try clear hs
            all_goals simp [hR, h0]
          · rw [if_neg hC] at c3 hf0
            rw [hf0] at hnx
            have hs : True := trivial
            repeat' first | (with_reducible first | refine q01 ?_ | refine q04 ?_ | refine q11 ?_ | refine q12 ?_ | refine q14 ?_) | (refine CallE.idle ?_; refine CallE.embed [3,1,5,4,6,7] (c3) ?_ ?_ ?_ ?_ ?_ ?_; (focus (simp [emb]; done)); (focus (simp; done)); (focus (simp; done)); (focus (simp; done)); (focus (refine emb_all ?_; simp [emb, embAll]; done)); try simp -dsimp [mergeO, emb]; try simp -dsimp [hlki, hs]) | (with_reducible refine DT_regionE [0,1,2,3,4,5,6,7,8,10,11,12,13,21,24,25,26,27,41,42,43,50] ?_; simp -dsimp [hlki, hs]) | (refine DT_cond rfl (fun h => ?_) (fun h => ?_) <;> (try simp only [nrm] at h) <;> (try exact Bool.noConfusion h))
            all_goals try simp -dsimp [hlki, hs]
            all_goals try clear hs
            all_goals exact At.round ⟨1, by omega, hnx⟩ (by simp only; omega) (Weak.of_drop [4,5,11,41,42] 7 (by simp) (by simp) (by simp [fileI, i64w]))
        · have c5 := c4 k (by simp; omega)
          generalize hF : findL (clN n s) A k [] = r at *
          cases r with
          | none =>
            simp only [resV] at c5
            have hs : True := trivial
            repeat' first | (with_reducible first | refine q01 ?_ | refine q04 ?_ | refine q11 ?_ | refine q12 ?_ | refine q14 ?_) | (refine CallE.idle ?_; refine CallE.empty (args' := [.one (.im (.raw (.int .i64 0))), .one (.im (.raw (.int .i64 (k : Int)))), .one (.im (.sl [])), .one (.ptr 3 0), .one (.ptr 1 0), .one (.ptr 5 0), .one (.ptr 6 0)]) rfl ?_; refine CallE.embed [3,1,5,4,6] (c5) ?_ ?_ ?_ ?_ ?_ ?_; (focus (simp [emb]; done)); (focus (simp; done)); (focus (simp; done)); (focus (simp; done)); (focus (refine emb_all ?_; simp [emb, embAll]; done)); try simp -dsimp [mergeO, emb]; try simp -dsimp [hlki, hw, hs]) | (with_reducible refine DT_regionE [0,1,2,3,4,5,6,7,8,10,11,12,13,21,24,25,26,27,41,42,43,50] ?_; simp -dsimp [hlki, hw, hs]) | (refine DT_cond rfl (fun h => ?_) (fun h => ?_) <;> (try simp only [nrm] at h) <;> (try exact Bool.noConfusion h))
            all_goals try simp -dsimp [hlki, hw, hs]
            all_goals try clear hs
            all_goals exact At.round ⟨k + 1, by omega, hnx⟩ (by simp only; omega) (Weak.of_drop [4,5,11,41,42] 7 (by simp) (by simp) (by simp [fileI]))
          | some y =>
            have hy : y ≠ [] := fun e => by
              have := findL_len _ _ _ _ hF
              rw [e] at this; simp only [List.length_nil] at this; omega
            have hR : wE n s = y := by rw [hsr, sizesL_hit hn0 hF hlk]; rfl
            simp only [resV, isv] at c5
            have hs : True := trivial
            repeat' first | (with_reducible first | refine q01 ?_ | refine q02 ?_ | refine q05 ?_ | refine q11 ?_ | refine q12 ?_ | refine q14 ?_ | refine q17 ?_) | (with_reducible refine At.fn_ret (by simp -dsimp [hlki, hw, hy, hs]; exact rfl) ?_) | (refine CallE.empty (args' := [.one (.im (.raw (.int .i64 0))), .one (.im (.raw (.int .i64 (k : Int)))), .one (.im (.sl [])), .one (.ptr 3 0), .one (.ptr 1 0), .one (.ptr 5 0), .one (.ptr 6 0)]) rfl ?_; refine CallE.embed [3,1,5,4,6] (c5) ?_ ?_ ?_ ?_ ?_ ?_; (focus (simp [emb]; done)); (focus (simp; done)); (focus (simp; done)); (focus (simp; done)); (focus (refine emb_all ?_; simp [emb, embAll]; done)); try simp -dsimp [mergeO, emb]; try simp -dsimp [hlki, hw, hy, hs]) | (with_reducible refine DT_regionE [0,1,2,3,4,5,6,7,8,10,11,12,13,21,24,25,26,27,41,42,43,50] ?_; simp -dsimp [hlki, hw, hy, hs]) | (refine DT_cond rfl (fun h => ?_) (fun h => ?_) <;> (try simp only [nrm] at h) <;> (try exact Bool.noConfusion h))
            all_goals try simp -dsimp [hlki, hw, hy, hs]
            all_goals try clear hs
            all_goals simp [hR, h0]
      · obtain rfl : k = n.notes.length + 1 := by omega
        have hR : wE n s = [] := by rw [hsr, hn0]; rfl
        have hlki : ¬ (((n.notes.length + 1 : Nat) : Int)) < (n.notes.length : Int) + 1 := by omega
        have hs : True := trivial
        repeat' first | (with_reducible first | refine q01 ?_ | refine q03 ?_ | refine q06 ?_ | refine q11 ?_ | refine q16 ?_ | refine q17 ?_) | (with_reducible refine At.fn_ret (by simp -dsimp [hlki, hs]; exact rfl) ?_) | (with_reducible refine DT_regionE [0,1,2,3,4,5,6,7,8,10,11,12,13,21,24,25,26,27,41,42,43,50] ?_; simp -dsimp [hlki, hs]) | (refine DT_cond rfl (fun h => ?_) (fun h => ?_) <;> (try simp only [nrm] at h) <;> (try exact Bool.noConfusion h))
        all_goals try simp -dsimp [hlki, hs]
        all_goals try clear hs
        all_goals simp [hR, h0]
  · have hE : wE n s = [] := by unfold wE; rw [if_neg h0]
    rw [show askedR n s 1 = .one (.im (.raw (.pointer none))) by unfold askedR; rw [if_neg h0]] at c1
    simp only [isv, iv] at c1
    have hs : True := trivial
    repeat' first | (with_reducible first | refine q01 ?_ | refine q02 ?_ | refine q11 ?_ | refine q17 ?_) | (with_reducible refine At.fn_ret (by simp -dsimp [h0, hs]; exact rfl) ?_) | (refine CallE.pure (c1) ?_; try simp -dsimp [h0, hs]) | (with_reducible refine DT_regionE [0,1,2,3,4,5,6,7,8,10,11,12,13,21,24,25,26,27,41,42,43,50] ?_; simp -dsimp [h0, hs]) | (refine DT_cond rfl (fun h => ?_) (fun h => ?_) <;> (try simp only [nrm] at h) <;> (try exact Bool.noConfusion h))
    all_goals try simp -dsimp [h0, hs]
    all_goals try clear hs
    all_goals simp [h0, hE]
end Go.Proofs
namespace Go.Proofs
open Go Go.Ab
variable {G : Nat → Option (List IC)}
theorem x_wS : wS nX [] = [101] := by
  unfold wS clN
  rw [show nX.notes.length + 1 = 5 from rfl]
  have := x_withdraw
  rw [this]; rfl
set_option maxRecDepth 100000 in
set_option maxHeartbeats 16000000 in
theorem alive_c (hG : sheetG G) (hN : noteG G) (hS : SortOk G) (objs : List DObj) : DCall Tryz.prog G 12 [] objs (fun rr objs' => rr = bv true ∧ objs' = objs) := by
  refine DCall.frame ?_ (by simp) (by simp) objs
  refine DCall_intro Tryz.func12 rfl Tryz.ntmps12 (by simp) rfl ?_
  try simp only [iv]
  have hx := x_small
  have a0 : askedE nX [] 10 = 0 := x_asked 10 (by omega) (by omega)
  have a1 : askedE nX [] 1 = 0 := x_asked 1 (by omega) (by omega)
  have c0 := notesX_c (G := G)
  have c1 := nStretches_c (G := G) nX [] 30 hG hN hS hx (by simp)
  rw [x_drawn 1 30 (by omega) (by omega) (by simp), if_pos rfl, x_str] at c1
  have c2 := nBy_c (G := G) nX [] 30 15 hG hN hS hx (by simp)
  rw [x_drawn 15 30 (by omega) (by omega) (by simp), if_pos rfl, show nX.notes.length = 4 from rfl, x_by] at c2
  have c3 := nClash_c (G := G) nX [] hG hN hS hx (by simp)
  rw [show clashR nX [] = [(101, 104)] by unfold clashR; rw [a1, if_pos rfl, x_clash], a1] at c3
  have c4 := nWithdraw_c (G := G) nX [] hG hN hS hx (by simp)
  rw [show wE nX [] = [101] by unfold wE; rw [a1, if_pos rfl, x_wS], a1] at c4
  have c5 := nSure_c (G := G) nX 10 hG hN hS hx
  rw [a0, if_pos rfl, x_open, show (2 : Nat) ^ [(102 : Int)].length = 2 from rfl, x_sure] at c5
  have c6 := nMatters_c (G := G) nX 10 hG hN hS hx
  rw [a0, if_pos rfl, x_open, show (2 : Nat) ^ [(102 : Int)].length = 2 from rfl, show [(102 : Int)].length = 1 from rfl, x_matters] at c6
  have c7 := nSettle_c (G := G) nX 102 true hG hN hS x_smallN hx
  rw [x_settle, show settleN nX 102 true = nS by unfold settleN nS; rw [x_settle, if_pos rfl]; rfl] at c7
  have c8 := nFirst_c (G := G) nX [102] 10 2 hG hN hS hx (by simp)
  rw [x_first.1, x_first.2] at c8
  have c9 := forced_c (G := G) 15 [101,104] hG hN hS (by simp) (by omega) x_force15
  have c10 := forced_c (G := G) 11 [103] hG hN hS (by simp) (by omega) x_force11
  have c11 := lettered_c (G := G) [] 9 [1,1,2,1,1] hG hN hS (by simp) (by simp) (x_asked 9 (by omega) (by omega)) x_let9
  have c12 := lettered_c (G := G) [102] 9 [2,1,2,1,1] hG hN hS (by simp) (by simp) x_asked9 x_let9b
  have c13 := sameStr_c (G := G) [⟨1, 4, 1⟩, ⟨5, 9, 2⟩, ⟨10, 12, 1⟩, ⟨13, 14, 2⟩, ⟨15, 15, 1⟩, ⟨16, 999, 2⟩] (by simp)
  have c14 := samePairs_c (G := G) [(101, 104)] (by simp)
  have c15 := isX_c (G := G) [101] 0 [101] (by simp) (by simp)
  have c16 := isX_c (G := G) [0,1,1,1,1] 0 [0,1,1,1,1] (by simp) (by simp)
  have c17 := isX_c (G := G) [102] 0 [102] (by simp) (by simp)
  have c18 := possible_c (G := G) nS 10 10 [2] hG hN hS x_smallS (by simp) x_drawnS x_posS
  have c19 := possible_c (G := G) nX 10 10 [1,2] hG hN hS hx (by simp) (x_drawn 10 10 (by omega) (by omega) (by simp)) x_posX
  clear hx a0 a1 hG hN hS
  simp only [decide_true, Bool.and_self] at c15 c16 c17
  simp only [strv, prv, isv, refv, notesv, encNotes] at *
  generalize hA : nX.reg.map encIssue = A at *
  generalize hB : nX.notes.map encNote = B at *
  generalize hC : nS.reg.map encIssue = C at *
  generalize hD : nS.notes.map encNote = D at *
  have hs : True := trivial
  repeat' first | (with_reducible first | refine q01 ?_ | refine q11 ?_ | refine q14 ?_ | refine q17 ?_) | (with_reducible refine At.fn_ret (by simp -dsimp [hs]; exact rfl) ?_) | (refine CallE.pure (c0) ?_; try simp -dsimp [hs]) | (refine CallE.pure (c1) ?_; try simp -dsimp [hs]) | (refine CallE.pure (c2) ?_; try simp -dsimp [hs]) | (refine CallE.pure (c3) ?_; try simp -dsimp [hs]) | (refine CallE.pure (c4) ?_; try simp -dsimp [hs]) | (refine CallE.pure (c5) ?_; try simp -dsimp [hs]) | (refine CallE.pure (c6) ?_; try simp -dsimp [hs]) | (refine CallE.pure (c7) ?_; try simp -dsimp [hs]) | (refine CallE.thaw (c8) ?_ ?_ ?_; (focus (simp; done)); (focus (simp; done)); try simp -dsimp [hs]) | (refine CallE.thaw (c9) ?_ ?_ ?_; (focus (simp; done)); (focus (simp; done)); try simp -dsimp [hs]) | (refine CallE.thaw (c10) ?_ ?_ ?_; (focus (simp; done)); (focus (simp; done)); try simp -dsimp [hs]) | (refine CallE.thaw (c11) ?_ ?_ ?_; (focus (simp; done)); (focus (simp; done)); try simp -dsimp [hs]) | (refine CallE.thaw (c12) ?_ ?_ ?_; (focus (simp; done)); (focus (simp; done)); try simp -dsimp [hs]) | (refine CallE.thaw (c13) ?_ ?_ ?_; (focus (simp; done)); (focus (simp; done)); try simp -dsimp [hs]) | (refine CallE.thaw (c14) ?_ ?_ ?_; (focus (simp; done)); (focus (simp; done)); try simp -dsimp [hs]) | (refine CallE.thaw (c15) ?_ ?_ ?_; (focus (simp; done)); (focus (simp; done)); try simp -dsimp [hs]) | (refine CallE.thaw (c16) ?_ ?_ ?_; (focus (simp; done)); (focus (simp; done)); try simp -dsimp [hs]) | (refine CallE.thaw (c17) ?_ ?_ ?_; (focus (simp; done)); (focus (simp; done)); try simp -dsimp [hs]) | (refine CallE.thaw (c18) ?_ ?_ ?_; (focus (simp; done)); (focus (simp; done)); try simp -dsimp [hs]) | (refine CallE.thaw (c19) ?_ ?_ ?_; (focus (simp; done)); (focus (simp; done)); try simp -dsimp [hs]) | (with_reducible refine DT_regionE [0,1,2,3,4,5,6,7,8,9,10,11,12,13,14,15,16,17,121] ?_; simp -dsimp [hs]) | (refine DT_cond rfl (fun h => ?_) (fun h => ?_) <;> (try simp only [nrm] at h) <;> (try exact Bool.noConfusion h))
  all_goals try simp -dsimp [hs]
  all_goals try clear hs
end Go.Proofs
namespace Go.Proofs
open Go Go.Ab
variable {G : Nat → Option (List IC)}
def readyB (n : Notes) : Bool := smallNB n && decide (notesE n = 0)
theorem readyB_yes {n : Notes} (hk : NKind n) (h : readyB n = true) : SmallN n ∧ NSm n ∧ notesE n = 0 := by
  simp only [readyB, Bool.and_eq_true, decide_eq_true_eq] at h
  exact ⟨(NSm_of hk h.1).1, (NSm_of hk h.1).2, h.2⟩
structure RF (n : Notes) : Prop where
  sn : SmallN n
  s : NSm n
  e : notesE n = 0
  c : checkR n.reg = 0
  l : n.notes.length ≤ 12
  ok : allOk n
  o5 : (isort (openL n.notes)).length ≤ 5
  ne : nums n.reg ≠ []
  n60 : (nums n.reg).length < 1000
theorem readyRF {n : Notes} (hk : NKind n) (h : readyB n = true) : RF n := by
  obtain ⟨h1, h2, h3⟩ := readyB_yes hk h
  obtain ⟨a1, a2, a3, a4⟩ := notes_ok h3
  refine ⟨h1, h2, h3, a1, a2, a3, by rw [isortL]; exact a4, nums_ne a1, ?_⟩
  have := numsTo_length n.reg n.reg.length
  rw [show numsTo n.reg n.reg.length = nums n.reg from rfl] at this
  have := h2.1.1; omega
theorem truth_sub {O t : List Int} (hO : O.Pairwise (· < ·)) (ht : t.Sublist O) : truthB O t = true := by
  refine truth_good fun i v hv => ⟨ht.subset (List.mem_of_getElem? hv), fun j u hj hu => ?_⟩
  subst hj
  obtain ⟨h1, h2⟩ := List.getElem?_eq_some_iff.1 hv
  obtain ⟨h3, h4⟩ := List.getElem?_eq_some_iff.1 hu
  have := List.pairwise_iff_getElem.1 (hO.sublist ht) j (j + 1) h3 h1 (by omega)
  omega
theorem RF.asked {n : Notes} (h : RF n) {t : List Int} (ht : t.Sublist (isort (openL n.notes))) {m : Int} (h1 : 1 ≤ m) (h2 : m ≤ 999) : askedE n t m = 0 := by
  unfold askedE
  rw [if_neg (by simp [h.e]), if_neg (by rw [truth_sub (isort_strict (openL_nodup h.ok)) ht]; decide), if_pos ⟨h1, h2⟩]
theorem RF.drawn {n : Notes} (h : RF n) {t : List Int} (ht : t.Sublist (isort (openL n.notes))) {m d : Int} (h1 : 1 ≤ m) (h2 : m ≤ 999) (hd : d ∈ nums n.reg) : drawnE n t m d = 0 := by
  unfold drawnE
  rw [if_neg (by simp [h.asked ht h1 h2]), if_pos hd]
def truthAt' (n : Notes) (b : Nat) : List Int := (truthsL (isort (openL n.notes))).getD (b % 2 ^ (isort (openL n.notes)).length) []
theorem RF.sub {n : Notes} (h : RF n) (b : Nat) : (truthAt' n b).Sublist (isort (openL n.notes)) := by
  rw [← truths_mem (isort_strict (openL_nodup h.ok))]
  unfold truthAt'
  have : b % 2 ^ (isort (openL n.notes)).length < (truthsL (isort (openL n.notes))).length := by rw [truthsL_len]; exact Nat.mod_lt _ (Nat.two_pow_pos _)
  rw [List.getD_eq_getElem?_getD, List.getElem?_eq_getElem this]
  exact List.getElem_mem this
theorem RF.len {n : Notes} (h : RF n) (b : Nat) : (truthAt' n b).length < 1000 := by
  have := (h.sub b).length_le
  have := h.o5; omega
theorem truthOf_c (n : Notes) (b : Nat) (hs : NSm n) (hok : allOk n) (h5 : (openL n.notes).length ≤ 5) (hb : b < 256) (objs : List DObj) : DCall Tryz.prog G 26 [notesv n, u8V (b : Int)] objs (fun rr objs' => rr = isv ((truthsL (isort (openL n.notes))).getD (b % 2 ^ (isort (openL n.notes)).length) []) ∧ objs' = objs) := by
  refine DCall.frame ?_ (by simp) (by simp) objs
  refine DCall_intro Tryz.func26 rfl Tryz.ntmps26 (by simp) rfl ?_
  try simp only [notesv]
  have c1 := rTruths_c (G := G) n hs hok h5
  have hl := truthsL_len (isort (openL n.notes))
  have hp : 0 < 2 ^ (isort (openL n.notes)).length := Nat.two_pow_pos _
  generalize 2 ^ (isort (openL n.notes)).length = P at *
  generalize truthsL (isort (openL n.notes)) = T at *
  subst hl
  have hw : IntKind.i64.wrap (b : Int) = b := i64w (by omega) (by omega)
  have ht : (b : Int).tmod (T.length : Int) = ((b % T.length : Nat) : Int) := by rw [Int.tmod_eq_emod_of_nonneg (by omega)]; simp
  have hlt : b % T.length < T.length := Nat.mod_lt _ hp
  have hn0 : ¬ (T.length : Int) = 0 := by omega
  have hn1 : ¬ T.length = 0 := by omega
  have hn2 : ¬ T = [] := fun e => hn1 (by rw [e]; rfl)
  have hg : T.getD (b % T.length) [] = T[b % T.length] := by simp [hlt]
  rw [hg]
  generalize b % T.length = q at *
  generalize hx : T[q] = x at *
  simp only [lsv] at c1
  have hs : True := trivial
  repeat' first | (with_reducible first | refine q01 ?_ | refine q11 ?_ | refine q17 ?_) | (with_reducible refine At.fn_ret (by simp -dsimp [hw, ht, hlt, hn0, hn1, hn2, hx, hs]; exact rfl) ?_) | (refine CallE.pure (c1) ?_; try simp -dsimp [hw, ht, hlt, hn0, hn1, hn2, hx, hs]) | (with_reducible refine DT_regionE [0,1,2,4,5] ?_; simp -dsimp [hw, ht, hlt, hn0, hn1, hn2, hx, hs])
  all_goals try simp -dsimp [hw, ht, hlt, hn0, hn1, hn2, hx, hs]
  all_goals try clear hs
theorem ready_c (n : Notes) (hk : NKind n) (objs : List DObj) : DCall Tryz.prog G 13 [notesv n] objs (fun rr objs' => rr = bv (readyB n) ∧ objs' = objs) := by
  refine DCall.frame ?_ (by simp) (by simp) objs
  refine DCall_intro Tryz.func13 rfl Tryz.ntmps13 (by simp) rfl ?_
  try simp only [notesv]
  have c1 := great3_c (G := G) n
  cases hq : smallNB n
  · rw [hq] at c1
    have hs : True := trivial
    repeat' first | (with_reducible first | refine q01 ?_ | refine q11 ?_ | refine q17 ?_) | (with_reducible refine At.fn_ret (by simp -dsimp [hs]; exact rfl) ?_) | (refine CallE.pure (c1) ?_; try simp -dsimp [hs]) | (with_reducible refine DT_regionE [0,1,2] ?_; simp -dsimp [hs])
    all_goals try simp -dsimp [hs]
    all_goals try clear hs
    all_goals simp [readyB, hq]
  · obtain ⟨_, hs⟩ := NSm_of hk hq
    rw [hq] at c1
    have c2 := notes3G_c (G := G) n hs
    have c3 := rcheck_c (G := G) n.reg hs.1
    by_cases h0 : checkR n.reg = 0
    · rw [rnotes_eq h0 fun x hx => (hs.2.2 x hx).1] at c2
      have hE : readyB n = notesB n := by unfold readyB notesE; rw [hq, if_neg (by simp [h0])]; cases notesB n <;> rfl
      rw [hE]; rw [h0] at c3
      generalize notesB n = q at *
      cases q
      · have hs : True := trivial
        repeat' first | (with_reducible first | refine q01 ?_ | refine q11 ?_ | refine q17 ?_) | (with_reducible refine At.fn_ret (by simp -dsimp [hs]; exact rfl) ?_) | (refine CallE.pure (c1) ?_; try simp -dsimp [hs]) | (refine CallE.pure (c2) ?_; try simp -dsimp [hs]) | (with_reducible refine DT_regionE [0,1,2] ?_; simp -dsimp [hs])
        all_goals try simp -dsimp [hs]
        all_goals try clear hs
      · have hs : True := trivial
        repeat' first | (with_reducible first | refine q01 ?_ | refine q11 ?_ | refine q17 ?_) | (with_reducible refine At.fn_ret (by simp -dsimp [hs]; exact rfl) ?_) | (refine CallE.pure (c1) ?_; try simp -dsimp [hs]) | (refine CallE.pure (c2) ?_; try simp -dsimp [hs]) | (refine CallE.pure (c3) ?_; try simp -dsimp [hs]) | (with_reducible refine DT_regionE [0,1,2] ?_; simp -dsimp [hs])
        all_goals try simp -dsimp [hs]
        all_goals try clear hs
    · have hE : readyB n = false := by unfold readyB notesE; rw [if_pos h0]; simp [h0]
      rw [hE]
      generalize rnotesB n = q at *
      cases q
      · have hs : True := trivial
        repeat' first | (with_reducible first | refine q01 ?_ | refine q11 ?_ | refine q17 ?_) | (with_reducible refine At.fn_ret (by simp -dsimp [h0, hs]; exact rfl) ?_) | (refine CallE.pure (c1) ?_; try simp -dsimp [h0, hs]) | (refine CallE.pure (c2) ?_; try simp -dsimp [h0, hs]) | (with_reducible refine DT_regionE [0,1,2] ?_; simp -dsimp [h0, hs])
        all_goals try simp -dsimp [h0, hs]
        all_goals try clear hs
      · have hs : True := trivial
        repeat' first | (with_reducible first | refine q01 ?_ | refine q11 ?_ | refine q17 ?_) | (with_reducible refine At.fn_ret (by simp -dsimp [h0, hs]; exact rfl) ?_) | (refine CallE.pure (c1) ?_; try simp -dsimp [h0, hs]) | (refine CallE.pure (c2) ?_; try simp -dsimp [h0, hs]) | (refine CallE.pure (c3) ?_; try simp -dsimp [h0, hs]) | (with_reducible refine DT_regionE [0,1,2] ?_; simp -dsimp [h0, hs])
        all_goals try simp -dsimp [h0, hs]
        all_goals try clear hs
end Go.Proofs
namespace Go.Ab
open Go
theorem list_enc {α : Type} {enc : α → List IC} {ok : α → Prop} : ∀ (es : List (List IC)), (∀ x ∈ es, ∃ a, ok a ∧ x = enc a) → ∃ xs : List α, (∀ x ∈ xs, ok x) ∧ es = xs.map enc
  | [], _ => ⟨[], by simp, rfl⟩
  | e :: es, h => by
    obtain ⟨a, ha, rfl⟩ := h e (by simp)
    obtain ⟨xs, hx, rfl⟩ := list_enc es fun x hx => h x (by simp [hx])
    exact ⟨a :: xs, by simpa using ⟨ha, hx⟩, rfl⟩
theorem Opens.sliceOf {P : Program} {t e : TypeId} {α : Type} {enc : α → List IC} {ok : α → Prop} {sz : Nat} (ht : P.underlying t = some (.slice e)) (hc : P.cellsOf e = sz) (h0 : 0 < sz) (hl : ∀ x, (enc x).length = sz) (he : Opens P e (fun l => ∃ x, ok x ∧ l = enc x)) :
    Opens P t (fun l => ∃ xs : List α, (∀ x ∈ xs, ok x) ∧ l = [.sl (xs.map enc)]) :=
  (Opens.slice ht hc h0 he (by rintro l ⟨x, _, rfl⟩; exact hl x)).mono (by
    rintro l ⟨es, h, rfl⟩
    obtain ⟨xs, h1, rfl⟩ := list_enc es h
    exact ⟨xs, h1, rfl⟩)
def kindIn (x : Issue) : Prop := 0 ≤ x.kind ∧ x.kind ≤ 255
end Go.Ab
namespace Go.Proofs
open Go Go.Ab
def Rd (t : TypeId) {α : Type} (enc : α → List IC) (ok : α → Prop) : Prop := Opens Tryz.prog t (fun l => ∃ x, ok x ∧ l = enc x)
theorem oInt : Opens Tryz.prog 3 (fun l => ∃ n : Int, l = [rI n]) := (Opens.int Tryz.underlying3).mono (by rintro l ⟨n, _, rfl⟩; exact ⟨n, rfl⟩)
theorem oU8 : Opens Tryz.prog 5 (fun l => ∃ n : Int, (0 ≤ n ∧ n ≤ 255) ∧ l = [.raw (.int .u8 n)]) := (Opens.int Tryz.underlying5).mono (by
  rintro l ⟨n, hn, rfl⟩
  exact ⟨n, by simpa [IntKind.min, IntKind.max, IntKind.signed, IntKind.bits] using hn, rfl⟩)
theorem oBool : Opens Tryz.prog 4 (fun l => ∃ b : Bool, l = [rB b]) := Opens.bool Tryz.underlying4
theorem rdInt : Rd 3 encI (fun _ => True) := oInt.mono (by rintro l ⟨n, rfl⟩; exact ⟨n, trivial, rfl⟩)
theorem len2 {α : Type} {l : List α} (h : l.length = 2) : ∃ a b, l = [a, b] := by
  match l, h with
  | [a, b], _ => exact ⟨a, b, rfl⟩
theorem len3 {α : Type} {l : List α} (h : l.length = 3) : ∃ a b c, l = [a, b, c] := by
  match l, h with
  | [a, b, c], _ => exact ⟨a, b, c, rfl⟩
theorem len4 {α : Type} {l : List α} (h : l.length = 4) : ∃ a b c d, l = [a, b, c, d] := by
  match l, h with
  | [a, b, c, d], _ => exact ⟨a, b, c, d, rfl⟩
theorem len5 {α : Type} {l : List α} (h : l.length = 5) : ∃ a b c d e, l = [a, b, c, d, e] := by
  match l, h with
  | [a, b, c, d, e], _ => exact ⟨a, b, c, d, e, rfl⟩
def pick3 {α : Type} (d : α) (a b c : α) : Nat → α | 0 => a | 1 => b | 2 => c | _ => d
def pick5 {α : Type} (z : α) (a b c d e : α) : Nat → α | 0 => a | 1 => b | 2 => c | 3 => d | 4 => e | _ => z
theorem rdItem : Rd 121 encItem (fun _ => True) := (Opens.struct Tryz.underlying121 (by kernel_rfl) (fun _ l => ∃ n : Int, l = [rI n]) (fun i f hf => by
    rcases i with _ | _ | i <;> simp at hf <;> subst hf <;> exact oInt)).mono (by
  rintro l ⟨ls, h1, h2, rfl⟩
  obtain ⟨a, b, rfl⟩ := len2 h1
  obtain ⟨x, rfl⟩ := h2 0 a rfl
  obtain ⟨y, rfl⟩ := h2 1 b rfl
  exact ⟨⟨x, y⟩, trivial, rfl⟩)
theorem rdDim : Rd 124 encDim (fun _ => True) := (Opens.struct Tryz.underlying124 (by kernel_rfl) (fun _ l => ∃ n : Int, l = [rI n]) (fun i f hf => by
    rcases i with _ | _ | _ | i <;> simp at hf <;> subst hf <;> exact oInt)).mono (by
  rintro l ⟨ls, h1, h2, rfl⟩
  obtain ⟨a, b, c, rfl⟩ := len3 h1
  obtain ⟨x, rfl⟩ := h2 0 a rfl
  obtain ⟨y, rfl⟩ := h2 1 b rfl
  obtain ⟨z, rfl⟩ := h2 2 c rfl
  exact ⟨⟨x, y, z⟩, trivial, rfl⟩)
theorem oItems : Opens Tryz.prog 80 (fun l => ∃ xs : List Itm, l = [.sl (xs.map encItem)]) :=
  (Opens.sliceOf Tryz.underlying80 (sz := 2) (by kernel_rfl) (by decide) (fun _ => rfl) rdItem).mono (by rintro l ⟨xs, _, h⟩; exact ⟨xs, h⟩)
theorem oDims : Opens Tryz.prog 112 (fun l => ∃ xs : List Dim, l = [.sl (xs.map encDim)]) :=
  (Opens.sliceOf Tryz.underlying112 (sz := 3) (by kernel_rfl) (by decide) (fun _ => rfl) rdDim).mono (by rintro l ⟨xs, _, h⟩; exact ⟨xs, h⟩)
theorem oInts : Opens Tryz.prog 34 (fun l => ∃ xs : List Int, l = [.sl (xs.map encI)]) :=
  (Opens.sliceOf Tryz.underlying34 (sz := 1) (by kernel_rfl) (by decide) (fun _ => rfl) rdInt).mono (by rintro l ⟨xs, _, h⟩; exact ⟨xs, h⟩)
theorem rdIssue : Rd 114 encIssue kindIn := (Opens.struct Tryz.underlying114 (by kernel_rfl) (pick5 (fun _ => True) (fun l => ∃ n : Int, l = [rI n]) (fun l => ∃ n : Int, l = [rI n]) (fun l => ∃ n : Int, (0 ≤ n ∧ n ≤ 255) ∧ l = [.raw (.int .u8 n)]) (fun l => ∃ xs : List Itm, l = [.sl (xs.map encItem)]) (fun l => ∃ xs : List Dim, l = [.sl (xs.map encDim)])) (fun i f hf => by
    rcases i with _ | _ | _ | _ | _ | i <;> simp at hf <;> subst hf
    · exact oInt
    · exact oInt
    · exact oU8
    · exact oItems
    · exact oDims)).mono (by
  rintro l ⟨ls, h1, h2, rfl⟩
  obtain ⟨a, b, c, d, e, rfl⟩ := len5 h1
  obtain ⟨x, rfl⟩ := h2 0 a rfl
  obtain ⟨y, rfl⟩ := h2 1 b rfl
  obtain ⟨z, hz, rfl⟩ := h2 2 c rfl
  obtain ⟨u, rfl⟩ := h2 3 d rfl
  obtain ⟨v, rfl⟩ := h2 4 e rfl
  exact ⟨⟨x, y, z, u, v⟩, hz, rfl⟩)
theorem oReg22 : Opens Tryz.prog 22 (fun l => ∃ xs : List Issue, (∀ x ∈ xs, kindIn x) ∧ l = [.sl (xs.map encIssue)]) :=
  Opens.sliceOf Tryz.underlying22 (sz := 5) (by kernel_rfl) (by decide) (fun _ => rfl) rdIssue
theorem oReg : Opens Tryz.prog 24 (fun l => ∃ xs : List Issue, (∀ x ∈ xs, kindIn x) ∧ l = [.sl (xs.map encIssue)]) := (Opens.struct Tryz.underlying24 (by kernel_rfl) (fun _ l => ∃ xs : List Issue, (∀ x ∈ xs, kindIn x) ∧ l = [.sl (xs.map encIssue)]) (fun i f hf => by
    rcases i with _ | i <;> simp at hf <;> subst hf <;> exact oReg22)).mono (by
  rintro l ⟨ls, h1, h2, rfl⟩
  obtain ⟨a, rfl⟩ := List.length_eq_one_iff.1 h1
  obtain ⟨x, hx, rfl⟩ := h2 0 a rfl
  exact ⟨x, hx, rfl⟩)
theorem cells_of_table {P : Program} {W : World} {t e te n : Nat} {f : Field} {ps rs : Array TypeId} {cs : Array Value} {fuel : Nat} {p : List MemPlace} {names : List (List UInt8)} {fs : List FuncId} (ht : P.underlying t = some (.array n e)) (hte : P.underlying e = some (.struct #[f])) (hf0 : f.offset = 0) (hft : f.type = te) (hu : P.underlying te = some (.func ps rs false)) (hce : P.cellsOf e = 1) (hcf : P.cellsOf te = 1) (hn : names.length = n)
    (hfs : (names.zip fs).all (fun x => x.1 ≠ [] ∧ ((List.range P.funcs.size).filter fun f => (P.funcs[f]?).any (·.name.toUTF8.data.toList == x.1)) = [x.2]) = true) (hl : fs.length = n)
    (h : DataW.trod (funcToken P) P W 0 (fun _ => true) true fuel t cs.toList = some (.agg (names.map fun x => .agg [.held x]), p)) : ∀ (j : Nat) (g : FuncId), fs[j]? = some g → cs[j]? = some (.func (.func g) #[] #[]) := by
  obtain ⟨xs, m, _, ex, hlen, hxl, hel⟩ := DataW.trod_array ht h
  intro j g hg
  have hj : j < n := by rw [← hl]; exact lt_of_getElem? hg
  have hE := hel j hj
  rw [hce, Nat.mul_one] at hE
  have hx : xs[j]? = some xs[j] := by simp [hxl, hj]
  rw [hx] at hE
  obtain ⟨ys, m2, _, ey, hlen2, hyl, hel2⟩ := DataW.trod_struct hte hE
  have hE2 := hel2 0 f rfl
  have hyl1 : ys.length = 1 := by simpa using hyl
  obtain ⟨y, rfl⟩ := List.length_eq_one_iff.1 hyl1
  rw [hf0, hft, hcf] at hE2
  have hcl : j < cs.size := by
    rcases Nat.lt_or_ge j cs.size with h1 | h1
    · exact h1
    · simp [hce] at hlen2; omega
  have hc1 : ((cs.toList.drop j).take 1) = [cs[j]] := by
    rw [List.drop_eq_getElem_cons (by simpa using hcl)]; simp
  rw [hc1] at hE2
  simp only [List.drop_zero, List.take_succ_cons, List.getElem?_cons_zero, List.take_nil] at hE2
  have hnm : names[j]? = some names[j] := by simp [hn, hj]
  have e1 : (xs.map (·.1))[j]? = (names.map fun x => DataW.agg [DataW.held x])[j]? := by rw [(DataW.agg.inj (Prod.mk.inj ex).1)]
  rw [List.getElem?_map, List.getElem?_map, hx, hnm, ey] at e1
  simp only [Option.map_some, Option.some.injEq, DataW.agg.injEq, List.map_cons, List.map_nil, List.cons.injEq, and_true] at e1
  have hall := List.all_eq_true.1 hfs (names[j], g) (List.mem_iff_getElem?.2 ⟨j, by rw [List.getElem?_zip_eq_some]; exact ⟨hnm, hg⟩⟩)
  simp only [decide_eq_true_eq] at hall
  cases hnj : names[j] with
  | nil => exact absurd hnj hall.1
  | cons b r =>
    rw [hnj] at hall e1
    have := func_of_trod (f0 := g) (q := y.2) hu hall.2 (by rw [hE2, ← e1])
    rw [Array.getElem?_eq_getElem hcl, this]
end Go.Proofs
namespace Go.Proofs
open Go Go.Ab
theorem len10 {α : Type} {l : List α} (h : l.length = 10) : ∃ a b c d e f g i j k, l = [a, b, c, d, e, f, g, i, j, k] := by
  match l, h with
  | [a, b, c, d, e, f, g, i, j, k], _ => exact ⟨a, b, c, d, e, f, g, i, j, k, rfl⟩
def noteIn (x : Note) : Prop := 0 ≤ x.ways ∧ x.ways ≤ 255 ∧ 0 ≤ x.signed ∧ x.signed ≤ 255
def noteP : Nat → List IC → Prop
  | 2 => fun l => ∃ n : Int, (0 ≤ n ∧ n ≤ 255) ∧ l = [.raw (.int .u8 n)]
  | 8 => fun l => ∃ b : Bool, l = [rB b]
  | 9 => fun l => ∃ n : Int, (0 ≤ n ∧ n ≤ 255) ∧ l = [.raw (.int .u8 n)]
  | _ => fun l => ∃ n : Int, l = [rI n]
theorem rdNote : Rd 51 encNote noteIn := (Opens.struct Tryz.underlying51 (by kernel_rfl) noteP (fun i f hf => by
    rcases i with _ | _ | _ | _ | _ | _ | _ | _ | _ | _ | i <;> simp at hf <;> subst hf
    · exact oInt
    · exact oInt
    · exact oU8
    · exact oInt
    · exact oInt
    · exact oInt
    · exact oInt
    · exact oInt
    · exact oBool
    · exact oU8)).mono (by
  rintro l ⟨ls, h1, h2, rfl⟩
  obtain ⟨a, b, c, d, e, f, g, i, j, k, rfl⟩ := len10 h1
  obtain ⟨x0, rfl⟩ := h2 0 a rfl
  obtain ⟨x1, rfl⟩ := h2 1 b rfl
  obtain ⟨x2, k2, rfl⟩ := h2 2 c rfl
  obtain ⟨x3, rfl⟩ := h2 3 d rfl
  obtain ⟨x4, rfl⟩ := h2 4 e rfl
  obtain ⟨x5, rfl⟩ := h2 5 f rfl
  obtain ⟨x6, rfl⟩ := h2 6 g rfl
  obtain ⟨x7, rfl⟩ := h2 7 i rfl
  obtain ⟨x8, rfl⟩ := h2 8 j rfl
  obtain ⟨x9, k9, rfl⟩ := h2 9 k rfl
  exact ⟨⟨x0, x1, x2, x3, x4, x5, x6, x7, x8, x9⟩, ⟨k9.1, k9.2, k2.1, k2.2⟩, rfl⟩)
theorem oNoteL : Opens Tryz.prog 25 (fun l => ∃ xs : List Note, (∀ x ∈ xs, noteIn x) ∧ l = [.sl (xs.map encNote)]) :=
  Opens.sliceOf Tryz.underlying25 (sz := 10) (by kernel_rfl) (by decide) (fun _ => rfl) rdNote
def notesP : Nat → List IC → Prop
  | 0 => fun l => ∃ xs : List Issue, (∀ x ∈ xs, kindIn x) ∧ l = [.sl (xs.map encIssue)]
  | _ => fun l => ∃ xs : List Note, (∀ x ∈ xs, noteIn x) ∧ l = [.sl (xs.map encNote)]
theorem rdNotes : Rd 27 encNotes NKind := (Opens.struct Tryz.underlying27 (by kernel_rfl) notesP (fun i f hf => by
    rcases i with _ | _ | i <;> simp at hf <;> subst hf
    · exact oReg
    · exact oNoteL)).mono (by
  rintro l ⟨ls, h1, h2, rfl⟩
  obtain ⟨a, b, rfl⟩ := len2 h1
  obtain ⟨x, hx, rfl⟩ := h2 0 a rfl
  obtain ⟨y, hy, rfl⟩ := h2 1 b rfl
  exact ⟨⟨x, y⟩, ⟨hx, hy⟩, rfl⟩)
end Go.Proofs
