/- Part 16 of the proof whose last text closes the card: laws and walks that hold without conditions beyond those that each theorem names. -/
import Derived.Carry
import Derived.Test.YtmonmfpdckdoiaaGreatDoorA09
import Derived.Test.YtmonmfpdckdoiaaGreatDoorA10
import Derived.Test.YtmonmfpdckdoiaaGreatDoorA13
import Derived.Test.YtmonmfpdckdoiaaGreatDoorA14
import Derived.Test.YtmonmfpdckdoiaaGreatDoorA15
set_option linter.all false
set_option linter.deprecated false
namespace Go.Proofs
open Go Go.Ab
set_option linter.unusedSimpArgs false
variable {G : Nat → Option (List IC)}
def byF (n : Notes) (s w : List Int) (m d : Int) (k : Nat) : Note := byN n.notes (frcL s w m n.notes) d k
theorem byF_succ {n : Notes} {s w : List Int} {m d : Int} {k : Nat} (hk : k < n.notes.length) : byF n s w m d (k + 1) = if n.notes[k].drawing = d ∧ frcAt n s w m k = true then n.notes[k] else byF n s w m d k := by
  have hl : k < (frcL s w m n.notes).length := by rw [frcL_len]; exact hk
  unfold byF frcAt
  simp only [byN, List.getElem?_eq_getElem hk, List.getElem?_eq_getElem hl, Option.some.injEq, Option.getD_some]
  by_cases h : (frcL s w m n.notes)[k] = true <;> by_cases h2 : n.notes[k].drawing = d <;> simp [h, h2]
set_option maxHeartbeats 1000000 in
theorem by_c (n : Notes) (s w : List Int) (m d : Int) (hl : n.notes.length < 1000) (hsl : s.length < 1000) (hwl : w.length < 1000) (M : List (Int × Bool)) (hM : ConsM n s w m M) :
    DCall Tryz.prog G 48 [.one (.im (fileI n)), .one (.fn (.func 97) frcCaps), iv d] (frcObjs n s w m M) (fun r o => ∃ M', ConsM n s w m M' ∧ r = notev (byF n s w m d n.notes.length) ∧ o = frcObjs n s w m M') := by
  have ih := fun i hi M hM => is_c (G := G) n s w m hl hsl hwl n.notes.length i (by omega) hi M hM
  simp only [frcObjs, frcCaps, fileI, iv, bv, rI, notev, encNote, rB, List.map_cons, List.map_nil] at ih ⊢
  refine DCall.drop ?_
  refine DCall_intro Tryz.func48 rfl Tryz.ntmps48 (by simp) rfl ?_
  have hw0 : IntKind.i64.wrap ((n.notes.length : Int) - 1) = (n.notes.length : Int) - 1 := i64w (by omega) (by omega)
  have hs : True := trivial
  repeat' first | (with_reducible first | refine q01 ?_ | refine q11 ?_ | refine q12 ?_) | (with_reducible refine DT_regionE [0, 1, 2, 6, 7, 8, 17, 36] ?_; simp -dsimp [hw0, hs])
  all_goals try simp -dsimp [hw0, hs]
  all_goals try clear hs
  refine DT_loop (ι := { p : Nat × List (Int × Bool) // p.1 ≤ n.notes.length ∧ ConsM n s w m p.2 ∧ byF n s w m d n.notes.length = byF n s w m d p.1 }) (fun p => ⟨39, [(0, .one (.im (.ip [.sl (n.reg.map encIssue), .sl (n.notes.map encNote), .sl ((nums n.reg).map encI), .sl ((isort (openL n.notes)).map encI)]))), (1, .one (.fn (.func 97) [.ptr 5 0, .ptr 0 0, .ptr 1 0, .ptr 2 0, .ptr 3 0, .ptr 6 0])), (2, iv d), (6, .one (.ptr 7 0)), (7, iv ((p.1.1 : Int) - 1))], [.row [.im (.ip [.sl (n.reg.map encIssue), .sl (n.notes.map encNote), .sl ((nums n.reg).map encI), .sl ((isort (openL n.notes)).map encI)])], .row [.im (.sl (s.map encI))], .row [.im (.sl (w.map encI))], .row [.im (rI m)], .map [.int .i64] (encMB p.1.2), .row [.map 4], .row [.fn (.func 97) [.ptr 5 0, .ptr 0 0, .ptr 1 0, .ptr 2 0, .ptr 3 0, .ptr 6 0]], .row ((encNote ⟨0, 0, 0, 0, 0, 0, 0, 0, false, 0⟩).map .im)]⟩) (fun p => p.1.1) ⟨(n.notes.length, M), by simp, hM, rfl⟩ (Weak.of_keep [0,1,2,6,7] (by simp)) ?_
  clear hM
  rintro ⟨⟨k, M2⟩, hk, hM2, hv⟩
  simp only at hk hM2 hv
  simp only [iv]
  cases k with
  | zero =>
    have hs : True := trivial
    repeat' first | (with_reducible first | refine q01 ?_ | refine q03 ?_ | refine q06 ?_ | refine q11 ?_ | refine q16 ?_ | refine q17 ?_) | (with_reducible refine At.fn_ret (by simp -dsimp [hs]; exact rfl) ?_) | (with_reducible refine DT_regionE [0, 1, 2, 6, 7, 8, 17, 36] ?_; simp -dsimp [hs]) | (refine DT_cond rfl (fun h => ?_) (fun h => ?_) <;> (try simp only [nrm] at h) <;> (try exact Bool.noConfusion h))
    all_goals try simp -dsimp [hs]
    all_goals try clear hs
    exact ⟨M2, hM2, by rw [hv]; simp [byF, byN, note1], rfl⟩
  | succ k =>
    have hkl : k < n.notes.length := hk
    have hwk : IntKind.i64.wrap ((k : Int) - 1) = (k : Int) - 1 := i64w (by omega) (by omega)
    have hc := ih k hkl M2 hM2
    rw [byF_succ hkl] at hv
    generalize hx : n.notes[k] = x at *
    by_cases hd : x.drawing = d
    · have hs : True := trivial
      repeat' first | (with_reducible first | refine q01 ?_ | refine q02 ?_ | refine q04 ?_ | refine q05 ?_ | refine q11 ?_ | refine q12 ?_ | refine q14 ?_ | refine q17 ?_) | (with_reducible refine At.fn_ret (by simp -dsimp [hx, hkl, hwk, hd, hs]; exact rfl) ?_) | (refine CallE.embed_ex [0,1,2,3,4,5,6] (hc) ?_ ?_ ?_ ?_ ?_ ?_; (focus (simp [emb]; done)); (focus (simp; done)); (focus (simp; done)); (focus (simp; done)); (focus (refine emb_all ?_; simp [emb, embAll]; done)); intro mm hmm; try simp -dsimp [mergeO, emb, hx, hkl, hwk, hd, hs]) | (with_reducible refine DT_regionE [0, 1, 2, 6, 7, 8, 17, 36] ?_; simp -dsimp [hx, hkl, hwk, hd, hs]) | (refine DT_cond rfl (fun h => ?_) (fun h => ?_) <;> (try simp only [nrm] at h) <;> (try exact Bool.noConfusion h))
      all_goals try simp -dsimp [hx, hkl, hwk, hd, hs]
      all_goals try clear hs
      · have e := hv.trans (if_pos ⟨hd, by assumption⟩)
        exact ⟨mm, hmm, by rw [e]; simp [hd], rfl⟩
      · have hf : frcAt n s w m k = false := by assumption
        have e := hv.trans (if_neg fun h => by rw [hf] at h; exact Bool.false_ne_true h.2)
        exact At.round ⟨(k, mm), by simp only; omega, hmm, e⟩ (by simp) (Weak.of_drop [0,1,2,6,7] 8 (by simp) (by simp) (by simp))
    · rw [if_neg fun h => hd h.1] at hv
      have hs : True := trivial
      repeat' first | (with_reducible first | refine q01 ?_ | refine q04 ?_ | refine q11 ?_ | refine q12 ?_ | refine q14 ?_) | (with_reducible refine DT_regionE [0, 1, 2, 6, 7, 8, 17, 36] ?_; simp -dsimp [hx, hkl, hwk, hd, hs]) | (refine DT_cond rfl (fun h => ?_) (fun h => ?_) <;> (try simp only [nrm] at h) <;> (try exact Bool.noConfusion h))
      all_goals try simp -dsimp [hx, hkl, hwk, hd, hs]
      all_goals try clear hs
      exact At.round ⟨(k, M2), by simp only; omega, hM2, hv⟩ (by simp) (Weak.of_drop [0,1,2,6,7] 8 (by simp) (by simp) (by simp))
def lettersP (n : Notes) (s : List Int) (m : Int) : List Int := (nums n.reg).map fun d => (byF n s [] m d n.notes.length).letter
set_option maxHeartbeats 1000000 in
theorem lettersP_c (n : Notes) (s : List Int) (m : Int) (hl : n.notes.length < 1000) (hr : n.reg.length < 1000) (hsl : s.length < 1000) (objs : List DObj) : DCall Tryz.prog G 58 [.one (.im (fileI n)), isv s, iv m] objs (fun rr objs' => rr = isv (lettersP n s m) ∧ objs' = objs) := by
  refine DCall.frame ?_ (by simp) (by simp) objs
  refine DCall_intro Tryz.func58 rfl Tryz.ntmps58 (by simp) rfl ?_
  try simp only [isv, iv]
  have c1 := force_c (G := G) n s [] m
  simp only [frcObjs, frcCaps, fileI, iv, isv, bv, rI, List.map_cons, List.map_nil, encMB] at c1 ⊢
  have hs : True := trivial
  repeat' first | (with_reducible first | refine q01 ?_ | refine q11 ?_ | refine q12 ?_) | (refine CallE.embed [] (c1) ?_ ?_ ?_ ?_ ?_ ?_; (focus (simp [emb]; done)); (focus (simp; done)); (focus (simp; done)); (focus (simp; done)); (focus (refine emb_all ?_; simp [emb, embAll]; done)); try simp -dsimp [mergeO, emb, hs]) | (with_reducible refine DT_regionE [0, 1, 2, 6, 7, 8, 10, 18, 19, 20, 21] ?_; simp -dsimp [hs])
  all_goals try simp -dsimp [hs]
  all_goals try clear hs
  have hrl := numsTo_length n.reg n.reg.length
  rw [show numsTo n.reg n.reg.length = nums n.reg from rfl] at hrl
  have hE : lettersP n s m = (nums n.reg).map fun d => (byF n s [] m d n.notes.length).letter := rfl
  generalize hP : (fun d => (byF n s [] m d n.notes.length).letter) = P at *
  generalize hns : nums n.reg = ns at *
  refine DT_loop (ι := { p : Nat × Nat × Bool × List (Int × Bool) // p.1 ≤ ns.length ∧ ConsM n s [] m p.2.2.2 }) (fun p => ⟨34, [(0, .one (.im (.ip [.sl (n.reg.map encIssue), .sl (n.notes.map encNote), .sl (ns.map encI), .sl ((isort (openL n.notes)).map encI)]))), (7, .one (.fn (.func 97) [.ptr 6 0, .ptr 1 0, .ptr 2 0, .ptr 3 0, .ptr 4 0, .ptr 7 0])), (8, .one (.vec 8 p.1.2.1 0 p.1.1)), (18, isv ns), (19, iv (ns.length : Int)), (20, iv (p.1.1 : Int))], [.vec 1 [] 0 true] ++ [.row [.im (.ip [.sl (n.reg.map encIssue), .sl (n.notes.map encNote), .sl (ns.map encI), .sl ((isort (openL n.notes)).map encI)])], .row [.im (.sl (s.map encI))], .row [.im (.sl [])], .row [.im (rI m)], .map [.int .i64] (encMB p.1.2.2.2), .row [.map 5], .row [.fn (.func 97) [.ptr 6 0, .ptr 1 0, .ptr 2 0, .ptr 3 0, .ptr 4 0, .ptr 7 0]]] ++ [.vec 1 (ims (((ns.take p.1.1).map P).map encI)) p.1.2.1 p.1.2.2.1]⟩) (fun p => ns.length - p.1.1) ⟨(0, 0, true, []), by simp, ConsM.nil _ _ _ _⟩ (Weak.of_keep [0,7,8,18,19,20] (by simp [encMB])) ?_
  rintro ⟨⟨k, g, nl, M⟩, hk, hM⟩
  simp only at hk hM
  simp only [iv, isv]
  have hlk : ((ns.take k).map P).length = k := by simp; omega
  by_cases hlt : k < ns.length
  · have hw : IntKind.i64.wrap ((k : Int) + 1) = ((k + 1 : Nat) : Int) := i64w (by omega) (by omega)
    have hst : (ns.take (k + 1)).map P = (ns.take k).map P ++ [P ns[k]] := by rw [List.take_succ_eq_append_getElem hlt, List.map_append, List.map_singleton]
    generalize hx : ns[k] = x at *
    have c2 := by_c (G := G) n s [] m x hl hsl (by simp) M hM
    have hPx : (byF n s [] m x n.notes.length).letter = P x := by rw [← hP]
    simp only [frcObjs, frcCaps, fileI, iv, bv, rI, List.map_cons, List.map_nil, hns] at c2
    generalize (ns.take k).map P = L at *
    subst hlk
    have hs : True := trivial
    repeat' first | (with_reducible first | refine q01 ?_ | refine q04 ?_ | refine q11 ?_ | refine q12 ?_ | refine q14 ?_ | refine And.intro (by omega) ?_) | (refine CallE.embed_ex [1,2,3,4,5,6,7] (c2) ?_ ?_ ?_ ?_ ?_ ?_; (focus (simp [emb]; done)); (focus (simp; done)); (focus (simp; done)); (focus (simp; done)); (focus (refine emb_all ?_; simp [emb, embAll]; done)); intro mm hmm; try simp -dsimp [mergeO, emb, hx, hlt, hw, hPx, hs]) | (with_reducible refine DT_regionE [0, 1, 2, 6, 7, 8, 10, 18, 19, 20, 21] ?_; simp -dsimp [hx, hlt, hw, hPx, hs]) | (refine DT_cond rfl (fun h => ?_) (fun h => ?_) <;> (try simp only [nrm] at h) <;> (try exact Bool.noConfusion h))
    all_goals try simp -dsimp [hx, hlt, hw, hPx, hs]
    all_goals try clear hs
    all_goals exact At.round ⟨(L.length + 1, g + 1, false, mm), by simp only; omega, hmm⟩ (by simp; omega) (Weak.of_drop [0,7,8,18,19,20] 9 (by simp) (by simp) (by simp [hst, hPx]))
  · obtain rfl : k = ns.length := by omega
    rw [List.take_length] at hlk ⊢
    have hs : True := trivial
    repeat' first | (with_reducible first | refine q01 ?_ | refine q03 ?_ | refine q06 ?_ | refine q11 ?_ | refine q16 ?_ | refine q17 ?_) | (with_reducible refine At.fn_ret (by simp -dsimp [hlt, hs]; exact rfl) ?_) | (with_reducible refine DT_regionE [0, 1, 2, 6, 7, 8, 10, 18, 19, 20, 21] ?_; simp -dsimp [hlt, hs]) | (refine DT_cond rfl (fun h => ?_) (fun h => ?_) <;> (try simp only [nrm] at h) <;> (try exact Bool.noConfusion h))
    all_goals try simp -dsimp [hlt, hs]
    all_goals try clear hs
    simp [hE]
end Go.Proofs
namespace Go.Proofs
open Go Go.Ab
def openI (l : List Note) : List Nat := ((List.range l.length).filter (opAt l)).mergeSort fun a b => decide (numAt l a ≤ numAt l b)
theorem openI_to (l : List Note) : OpenTo l l.length (openI l) := by
  refine ⟨List.mergeSort_perm _ _, ?_⟩
  have := List.pairwise_mergeSort (le := fun a b : Nat => decide (numAt l a ≤ numAt l b)) (fun a b c h1 h2 => by simp at *; omega) (fun a b => by simp; omega) ((List.range l.length).filter (opAt l))
  exact this.imp fun h => by simpa using h
theorem openI_eq {n : Notes} (hok : allOk n) {S : List Nat} (h : OpenTo n.notes n.notes.length S) : S = openI n.notes := by
  have h2 := openI_to n.notes
  refine (h.perm.trans h2.perm.symm).eq_of_pairwise (le := fun a b => numAt n.notes a ≤ numAt n.notes b) (fun a b ha hb h3 h4 => ?_) h.srt h2.srt
  have la := (h.lt a ha).1
  have lb := (h2.lt b hb).1
  have e : numAt n.notes a = numAt n.notes b := by omega
  simp only [numAt, List.getElem?_eq_getElem la, List.getElem?_eq_getElem lb, Option.map_some, Option.getD_some] at e
  have hnd := nums_nodup hok
  have la' : a < (n.notes.map (·.number)).length := by simpa using la
  have lb' : b < (n.notes.map (·.number)).length := by simpa using lb
  have e' : (n.notes.map (·.number))[a] = (n.notes.map (·.number))[b] := by simpa using e
  exact (List.getElem_inj hnd).1 e'
theorem openI_nums {n : Notes} : (openI n.notes).map (numAt n.notes) = isort (openL n.notes) := (openI_to n.notes).nums
theorem openI_lt {l : List Note} {i : Nat} (h : i ∈ openI l) : i < l.length := ((openI_to l).lt i h).1
end Go.Proofs
namespace Go.Ab
open Go
@[simp] theorem ims_set1 (X : List (List IC)) (k : Nat) (c : IC) : (ims X).set k [DC.im c] = ims (X.set k [c]) := by
  simp only [ims, List.map_set, List.map_cons, List.map_nil]
@[simp] theorem ims_get1 (X : List (List IC)) (k : Nat) (h : k < (ims X).length) : (ims X)[k] = (X[k]'(by simpa [ims_length] using h)).map .im := by simp [ims]
theorem map_nat_set (S : List Nat) (i v : Nat) : (S.map fun j => ((j : Nat) : Int)).set i (v : Int) = (S.set i v).map fun j => ((j : Nat) : Int) := by
  rw [List.map_set]
theorem ins_swap {S : List Nat} {q k : Nat} (hq : q < S.length) : ((S.take (q + 1) ++ k :: S.drop (q + 1)).set (q + 1) S[q]).set q k = S.take q ++ k :: S.drop q := by
  have h1 : S.take (q + 1) = S.take q ++ [S[q]] := List.take_succ_eq_append_getElem hq
  have hl : (S.take q).length = q := by simp; omega
  rw [List.drop_eq_getElem_cons hq, h1, List.append_assoc, List.set_append_right _ _ (by omega), List.set_append_right _ _ (by omega)]
  congr 1
  rw [hl, show q + 1 - q = 1 by omega, show q - q = 0 by omega]
  rfl
theorem ins_at {S : List Nat} {q k : Nat} (hq : q ≤ S.length) : (S.take q ++ k :: S.drop q)[q]? = some k := by
  have hl : (S.take q).length = q := by simp; omega
  rw [List.getElem?_append_right (by omega), hl, Nat.sub_self]; rfl
theorem ins_before {S : List Nat} {q k : Nat} (hq : q < S.length) : (S.take (q + 1) ++ k :: S.drop (q + 1))[q]? = some S[q] := by
  rw [List.getElem?_append_left (by simp; omega), List.getElem?_take_of_lt (by omega), List.getElem?_eq_getElem hq]
end Go.Ab
namespace Go.Proofs
open Go Go.Ab
set_option linter.unusedSimpArgs false
variable {G : Nat → Option (List IC)}
def idxv (S : List Nat) : List Int := S.map fun j => ((j : Nat) : Int)
set_option maxHeartbeats 4000000 in
theorem open3_c (n : Notes) (hs : NSm n) (hok : allOk n) (objs : List DObj) : DCall Tryz.prog G 62 [notesv n] objs (fun rr objs' => rr = isv (idxv (openI n.notes)) ∧ objs' = objs) := by
  refine DCall.frame ?_ (by simp) (by simp) objs
  refine DCall_intro Tryz.func62 rfl Tryz.ntmps62 (by simp) rfl ?_
  try simp only [notesv]
  have hn16 := hs.2.1
  have hs : True := trivial
  repeat' first | (with_reducible first | refine q01 ?_ | refine q11 ?_ | refine q12 ?_) | (with_reducible refine DT_regionE [0, 1, 2, 3, 4, 5, 6, 11, 20, 51] ?_; simp -dsimp [hs])
  all_goals try simp -dsimp [hs]
  all_goals try clear hs
  refine DT_loop (ι := { p : Nat × Nat × Bool × List Nat // p.1 ≤ n.notes.length ∧ OpenTo n.notes p.1 p.2.2.2 }) (fun p => ⟨72, [(1, .one (.ptr 0 0)), (3, .one (.vec 2 p.1.2.1 0 (idxv p.1.2.2.2).length)), (4, iv (p.1.1 : Int))], [.row ((encNotes n).map .im), .vec 1 [] 0 true, .vec 1 (ims ((idxv p.1.2.2.2).map encI)) p.1.2.1 p.1.2.2.1]⟩) (fun p => n.notes.length - p.1.1) ⟨(0, 0, true, []), by simp, OpenTo.nil _⟩ (Weak.of_keep [1,3,4] (by simp [idxv])) ?_
  rintro ⟨⟨i, g, nl, S⟩, hi, hS⟩
  simp only at hi hS
  simp only [iv]
  have hSl := hS.len
  by_cases hlt : i < n.notes.length
  · have hw : IntKind.i64.wrap ((i : Int) + 1) = ((i + 1 : Nat) : Int) := i64w (by omega) (by omega)
    have hop : opAt n.notes i = decide (n.notes[i].signed = 1) := by simp [opAt, hlt]
    have hnu : numAt n.notes i = n.notes[i].number := by simp [numAt, hlt]
    generalize hx : n.notes[i] = x at *
    by_cases h1 : x.signed = 1
    · have hLl : (idxv S).length = S.length := by simp [idxv]
      have hw2 : IntKind.i64.wrap ((idxv S).length : Int) = ((idxv S).length : Int) := i64w (by omega) (by omega)
      rw [decide_eq_true h1] at hop
      have hs : True := trivial
      repeat' first | (with_reducible first | refine q01 ?_ | refine q11 ?_ | refine q12 ?_ | refine q14 ?_ | refine And.intro (by omega) ?_) | (with_reducible refine DT_regionE [0, 1, 2, 3, 4, 5, 6, 11, 20, 51] ?_; simp -dsimp [hx, hlt, h1, hw, hw2, hs]) | (refine DT_cond rfl (fun h => ?_) (fun h => ?_) <;> (try simp only [nrm] at h) <;> (try exact Bool.noConfusion h))
      all_goals try simp -dsimp [hx, hlt, h1, hw, hw2, hs]
      all_goals try clear hs
      refine DT_loop (ι := { q : Nat // q ≤ S.length ∧ ∀ j ∈ S.drop q, numAt n.notes i ≤ numAt n.notes j }) (fun p => ⟨72, [(1, .one (.ptr 0 0)), (3, .one (.vec 2 (g + 1) 0 (S.length + 1))), (4, iv (i : Int)), (5, iv (p.1 : Int))], [.row ((encNotes n).map .im), .vec 1 [] 0 true, .vec 1 (ims ((idxv (S.take p.1 ++ i :: S.drop p.1)).map encI)) (g + 1) false]⟩) (fun p => p.1) ⟨S.length, by simp⟩ (Weak.of_drop [1,3,4,5] 3 (by simp) (by simp) (by simp [hLl]; simp [idxv])) ?_
      rintro ⟨q, hq, hge⟩
      simp only [iv]
      have hLq := ins_at (k := i) hq
      have hTl : (idxv (S.take q ++ i :: S.drop q)).length = S.length + 1 := by simp [idxv]; omega
      have hLi : (idxv (S.take q ++ i :: S.drop q))[q]? = some (i : Int) := by rw [idxv, List.getElem?_map, hLq]; rfl
      by_cases h0 : q = 0
      · subst h0
        have hput := hS.put hop 0 (by simp) hge
        have hs : True := trivial
        repeat' first | (with_reducible first | refine q01 ?_ | refine q03 ?_ | refine q04 ?_ | refine q06 ?_ | refine q11 ?_ | refine q16 ?_) | (refine DT_regionM (id := 8) (nt := 72) 24 [0, 1, 2, 3, 4, 5, 6, 11, 20, 51] mixed rfl (by kernel_rfl) ?_; simp -dsimp [hw, hx, hlt, hs]) | (with_reducible refine DT_regionE [0, 1, 2, 3, 4, 5, 6, 11, 20, 51] ?_; simp -dsimp [hw, hx, hlt, hs]) | (refine DT_cond rfl (fun h => ?_) (fun h => ?_) <;> (try simp only [nrm] at h) <;> (try exact Bool.noConfusion h))
        all_goals try simp -dsimp [hw, hx, hlt, hs]
        all_goals try clear hs
        exact At.round ⟨(i + 1, g + 1, false, S.take 0 ++ i :: S.drop 0), by omega, hput⟩ (by simp; omega) (Weak.of_keep [1,3,4] (by simp [idxv]))
      · obtain ⟨r, rfl⟩ : ∃ r, q = r + 1 := ⟨q - 1, by omega⟩
        have hr : r < S.length := by omega
        have hb := ins_before (k := i) hr
        have hLr : (idxv (S.take (r + 1) ++ i :: S.drop (r + 1)))[r]? = some (S[r] : Int) := by rw [idxv, List.getElem?_map, hb]; rfl
        have hsw := ins_swap (k := i) hr
        have hLs : ((idxv (S.take (r + 1) ++ i :: S.drop (r + 1))).set (r + 1) (S[r] : Int)).set r (i : Int) = idxv (S.take r ++ i :: S.drop r) := by
          rw [idxv, map_nat_set, map_nat_set, hsw]; rfl
        have hj := (hS.lt S[r] (List.getElem_mem hr)).1
        have hjl : S[r] < n.notes.length := by omega
        have hju : numAt n.notes S[r] = n.notes[S[r]].number := by simp [numAt, hjl]
        have hdr := List.drop_eq_getElem_cons hr
        have hfirst := fun (v : Int) h => hS.first hr (v := v) h
        have hput := fun h => hS.put hop (r + 1) h hge
        have hq1 : ((r + 1 : Nat) : Int) - 1 = (r : Int) := by omega
        have hwr : IntKind.i64.wrap (r : Int) = (r : Int) := i64w (by omega) (by omega)
        have hr1 : r < S.length + 1 := by omega
        have hp0 : (0 : Int) ≤ (r : Int) + 1 := by omega
        have hp1 : (0 : Int) < (r : Int) + 1 := by omega
        have hwr1 : IntKind.i64.wrap ((r : Int) + 1 - 1) = (r : Int) := i64w (by omega) (by omega) |>.trans (by omega)
        generalize S[r] = j at *
        generalize hy : n.notes[j] = y at *
        generalize hL : idxv (S.take (r + 1) ++ i :: S.drop (r + 1)) = L at *
        obtain ⟨_, hLre⟩ := List.getElem?_eq_some_iff.1 hLr
        obtain ⟨_, hLie⟩ := List.getElem?_eq_some_iff.1 hLi
        have hs : True := trivial
        repeat' first | (with_reducible first | refine q01 ?_ | refine q03 ?_ | refine q04 ?_ | refine q06 ?_ | refine q11 ?_ | refine q12 ?_ | refine q14 ?_ | refine q16 ?_) | (refine DT_regionM (id := 8) (nt := 72) 24 [0, 1, 2, 3, 4, 5, 6, 11, 20, 51] mixed rfl (by kernel_rfl) ?_; simp -dsimp [hw, hx, hlt, hy, hjl, hLie, hLre, hwr, hTl, hr, hr1, hp0, hp1, hwr1, hs]) | (with_reducible refine DT_regionE [0, 1, 2, 3, 4, 5, 6, 11, 20, 51] ?_; simp -dsimp [hw, hx, hlt, hy, hjl, hLie, hLre, hwr, hTl, hr, hr1, hp0, hp1, hwr1, hs]) | (refine DT_cond rfl (fun h => ?_) (fun h => ?_) <;> (try simp only [nrm] at h) <;> (try exact Bool.noConfusion h))
        all_goals try simp -dsimp [hw, hx, hlt, hy, hjl, hLie, hLre, hwr, hTl, hr, hr1, hp0, hp1, hwr1, hs]
        all_goals try clear hs
        · exact At.round ⟨r, by omega, fun z hz => by
            rw [hdr] at hz
            rcases List.mem_cons.1 hz with rfl | hz
            · omega
            · exact hge z hz⟩ (by simp) (Weak.of_keep [1,3,4,5] (by simp [← hLs]))
        · exact At.round ⟨(i + 1, g + 1, false, S.take (r + 1) ++ i :: S.drop (r + 1)), by omega, hput (hfirst _ (by omega))⟩ (by simp; omega) (Weak.of_keep [1,3,4] (by simp [hL, hTl]))
    · rw [decide_eq_false h1] at hop
      have hs : True := trivial
      repeat' first | (with_reducible first | refine q01 ?_ | refine q03 ?_ | refine q06 ?_ | refine q11 ?_ | refine q12 ?_ | refine q14 ?_ | refine q16 ?_) | (with_reducible refine DT_regionE [0, 1, 2, 3, 4, 5, 6, 11, 20, 51] ?_; simp -dsimp [hx, hlt, h1, hw, hs]) | (refine DT_cond rfl (fun h => ?_) (fun h => ?_) <;> (try simp only [nrm] at h) <;> (try exact Bool.noConfusion h))
      all_goals try simp -dsimp [hx, hlt, h1, hw, hs]
      all_goals try clear hs
      exact At.round ⟨(i + 1, g, nl, S), by omega, hS.skip hop⟩ (by simp; omega) (Weak.of_keep [1,3,4] (by simp))
  · obtain rfl : i = n.notes.length := by omega
    obtain rfl := openI_eq hok hS
    have hs : True := trivial
    repeat' first | (with_reducible first | refine q01 ?_ | refine q03 ?_ | refine q06 ?_ | refine q11 ?_ | refine q16 ?_ | refine q17 ?_) | (with_reducible refine At.fn_ret (by simp -dsimp [hlt, hs]; exact rfl) ?_) | (with_reducible refine DT_regionE [0, 1, 2, 3, 4, 5, 6, 11, 20, 51] ?_; simp -dsimp [hlt, hs]) | (refine DT_cond rfl (fun h => ?_) (fun h => ?_) <;> (try simp only [nrm] at h) <;> (try exact Bool.noConfusion h))
    all_goals try simp -dsimp [hlt, hs]
    all_goals try clear hs
    all_goals simp [idxv]
end Go.Proofs
namespace Go.Proofs
open Go Go.Ab
set_option linter.unusedSimpArgs false
variable {G : Nat → Option (List IC)}
set_option maxHeartbeats 2000000 in
theorem truth3_c (n : Notes) (s : List Int) (hs : NSm n) (hok : allOk n) (hsl : s.length < 1000) (objs : List DObj) : DCall Tryz.prog G 101 [notesv n, isv s] objs (fun rr objs' => rr = bv (truthB (isort (openL n.notes)) s) ∧ objs' = objs) := by
  refine DCall.frame ?_ (by simp) (by simp) objs
  refine DCall_intro Tryz.func101 rfl Tryz.ntmps101 (by simp) rfl ?_
  try simp only [notesv, isv]
  have hn16 := hs.2.1
  have c1 := open3_c (G := G) n hs hok
  have hnu := openI_nums (n := n)
  have hol := (openI_to n.notes).len
  have hOl : (isort (openL n.notes)).length = (openI n.notes).length := by rw [← hnu, List.length_map]
  generalize hO : isort (openL n.notes) = O at *
  have hs : True := trivial
  repeat' first | (with_reducible first | refine q01 ?_ | refine q11 ?_ | refine q12 ?_) | (refine CallE.pure (c1) ?_; try simp -dsimp [hs]) | (with_reducible refine DT_regionE [0, 1, 2, 4, 5, 6, 7, 8, 14, 32, 57] ?_; simp -dsimp [hs])
  all_goals try simp -dsimp [hs]
  all_goals try clear hs
  refine DT_loop (ι := { p : Nat × Nat × Bool // p.1 ≤ (openI n.notes).length }) (fun p => ⟨58, [(1, isv s), (2, .one (.ptr 0 0)), (5, .one (.vec 1 p.1.2.1 0 (O.take p.1.1).length)), (6, isv (idxv (openI n.notes))), (7, iv (p.1.1 : Int))], [.row ((encNotes n).map .im), .vec 1 (ims ((O.take p.1.1).map encI)) p.1.2.1 p.1.2.2]⟩) (fun p => (openI n.notes).length - p.1.1) ⟨(0, 0, true), by simp⟩ (Weak.of_keep [1,2,5,6,7] (by simp [idxv])) ?_
  rintro ⟨⟨j, g, nl⟩, hj⟩
  simp only at hj
  simp only [iv, isv]
  have hil : (idxv (openI n.notes)).length = (openI n.notes).length := by simp [idxv]
  by_cases hlt : j < (openI n.notes).length
  · have hw : IntKind.i64.wrap ((j : Int) + 1) = ((j + 1 : Nat) : Int) := i64w (by omega) (by omega)
    have hjO : j < O.length := by omega
    have hst : O.take (j + 1) = O.take j ++ [O[j]] := List.take_succ_eq_append_getElem hjO
    have htl : (O.take j).length = j := by simp; omega
    have hie : (idxv (openI n.notes))[j]? = some ((openI n.notes)[j] : Int) := by simp [idxv, hlt]
    obtain ⟨hil2, hie⟩ := List.getElem?_eq_some_iff.1 hie
    have hkl := openI_lt (List.getElem_mem hlt)
    have hOj : O[j] = n.notes[(openI n.notes)[j]].number := by
      have : O[j]? = some (numAt n.notes (openI n.notes)[j]) := by rw [← hnu, List.getElem?_map, List.getElem?_eq_getElem hlt]; rfl
      rw [List.getElem?_eq_getElem hjO] at this
      rw [Option.some.inj this]; simp [numAt, hkl]
    rw [hOj] at hst
    generalize (openI n.notes)[j] = k at *
    generalize hx : n.notes[k] = x at *
    generalize idxv (openI n.notes) = I at *
    generalize O.take j = L at *
    subst htl
    have hs : True := trivial
    repeat' first | (with_reducible first | refine q01 ?_ | refine q04 ?_ | refine q11 ?_ | refine q12 ?_ | refine q14 ?_ | refine And.intro (by omega) ?_) | (refine DT_regionM (id := 6) (nt := 58) 11 [0, 1, 2, 4, 5, 6, 7, 8, 14, 32, 57] mixed rfl (by kernel_rfl) ?_; simp -dsimp [hx, hkl, hlt, hw, hie, hil, hil2, hs]) | (with_reducible refine DT_regionE [0, 1, 2, 4, 5, 6, 7, 8, 14, 32, 57] ?_; simp -dsimp [hx, hkl, hlt, hw, hie, hil, hil2, hs]) | (refine DT_cond rfl (fun h => ?_) (fun h => ?_) <;> (try simp only [nrm] at h) <;> (try exact Bool.noConfusion h))
    all_goals try simp -dsimp [hx, hkl, hlt, hw, hie, hil, hil2, hs]
    all_goals try clear hs
    all_goals exact At.round ⟨(L.length + 1, g + 1, false), by omega⟩ (by simp; omega) (Weak.of_drop [1,2,5,6,7] 2 (by simp) (by simp) (by simp [hst]))
  · obtain rfl : j = (openI n.notes).length := by omega
    rw [show O.take (openI n.notes).length = O from List.take_of_length_le (by omega)]
    have hs : True := trivial
    repeat' first | (with_reducible first | refine q01 ?_ | refine q03 ?_ | refine q06 ?_ | refine q11 ?_ | refine q12 ?_ | refine q16 ?_) | (with_reducible refine DT_regionE [0, 1, 2, 4, 5, 6, 7, 8, 14, 32, 57] ?_; simp -dsimp [hlt, hil, hs]) | (refine DT_cond rfl (fun h => ?_) (fun h => ?_) <;> (try simp only [nrm] at h) <;> (try exact Bool.noConfusion h))
    all_goals try simp -dsimp [hlt, hil, hs]
    all_goals try clear hs
    refine DT_loop (ι := { i : Nat // i ≤ s.length ∧ truthTo O s i }) (fun p => ⟨58, [(1, isv s), (5, isv O), (8, iv (p.1 : Int))], [.row ((encNotes n).map .im)]⟩) (fun p => s.length - p.1) ⟨0, by simp, fun i v h => by omega⟩ (Weak.of_drop [1,5,8] 1 (by simp) (by simp) (by simp)) ?_
    rintro ⟨i, hi, hto⟩
    simp only [iv, isv]
    by_cases hlt2 : i < s.length
    · have hx0 : s[i]? = some s[i] := by simp [hlt2]
      have hw : IntKind.i64.wrap ((i : Int) + 1) = ((i + 1 : Nat) : Int) := i64w (by omega) (by omega)
      have c2 := has3_c (G := G) O s[i] (by omega)
      generalize hv : s[i] = v at *
      by_cases hmem : v ∈ O
      · rw [decide_eq_true hmem] at c2
        by_cases h00 : i = 0
        · have hnext := truthTo_step hto hx0 hmem (fun j u e => by omega)
          subst h00
          have hs : True := trivial
          repeat' first | (with_reducible first | refine q01 ?_ | refine q04 ?_ | refine q11 ?_ | refine q12 ?_ | refine q14 ?_) | (refine QCall_pure (c2) ?_; try simp -dsimp [hv, hlt2, hs]) | (refine DT_regionM (id := 10) (nt := 58) 23 [0, 1, 2, 4, 5, 6, 7, 8, 14, 32, 57] mixed rfl (by kernel_rfl) ?_; simp -dsimp [hv, hlt2, hs]) | (with_reducible refine DT_regionE [0, 1, 2, 4, 5, 6, 7, 8, 14, 32, 57] ?_; simp -dsimp [hv, hlt2, hs]) | (refine DT_cond rfl (fun h => ?_) (fun h => ?_) <;> (try simp only [nrm] at h) <;> (try exact Bool.noConfusion h))
          all_goals try simp -dsimp [hv, hlt2, hs]
          all_goals try clear hs
          exact At.round ⟨0 + 1, by omega, hnext⟩ (by simp; omega) (Weak.of_keep [1,5,8] (by simp; exact i64w (by omega) (by omega)))
        · have hq : i - 1 < s.length := by omega
          have hwq : IntKind.i64.wrap ((i : Int) - 1) = ((i - 1 : Nat) : Int) := by rw [i64w (by omega) (by omega)]; omega
          have hi0 : (0 : Int) < (i : Int) := by omega
          have hin0 : 0 < i := by omega
          have hu0 : s[i - 1]? = some s[i - 1] := by simp [hq]
          generalize hu : s[i - 1] = u at *
          by_cases hlu : v ≤ u
          · have hb := truth_bad (o := O) hx0 (.inr ⟨i - 1, u, by omega, hu0, hlu⟩)
            have hs : True := trivial
            repeat' first | (with_reducible first | refine q01 ?_ | refine q02 ?_ | refine q05 ?_ | refine q11 ?_ | refine q12 ?_ | refine q14 ?_ | refine q17 ?_) | (with_reducible refine At.fn_ret (by simp -dsimp [hv, hu, hq, hlt2, hw, hwq, hi0, hin0, hlu, hs]; exact rfl) ?_) | (refine QCall_pure (c2) ?_; try simp -dsimp [hv, hu, hq, hlt2, hw, hwq, hi0, hin0, hlu, hs]) | (refine DT_regionM (id := 10) (nt := 58) 23 [0, 1, 2, 4, 5, 6, 7, 8, 14, 32, 57] mixed rfl (by kernel_rfl) ?_; simp -dsimp [hv, hu, hq, hlt2, hw, hwq, hi0, hin0, hlu, hs]) | (with_reducible refine DT_regionE [0, 1, 2, 4, 5, 6, 7, 8, 14, 32, 57] ?_; simp -dsimp [hv, hu, hq, hlt2, hw, hwq, hi0, hin0, hlu, hs]) | (refine DT_cond rfl (fun h => ?_) (fun h => ?_) <;> (try simp only [nrm] at h) <;> (try exact Bool.noConfusion h))
            all_goals try simp -dsimp [hv, hu, hq, hlt2, hw, hwq, hi0, hin0, hlu, hs]
            all_goals try clear hs
            all_goals simp [hb]
          · have hnext := truthTo_step hto hx0 hmem (fun j u' e hu' => by
              obtain rfl : i - 1 = j := by omega
              rw [hu0] at hu'; cases hu'; omega)
            have hs : True := trivial
            repeat' first | (with_reducible first | refine q01 ?_ | refine q04 ?_ | refine q11 ?_ | refine q12 ?_ | refine q14 ?_) | (refine QCall_pure (c2) ?_; try simp -dsimp [hv, hu, hq, hlt2, hw, hwq, hi0, hin0, hlu, hs]) | (refine DT_regionM (id := 10) (nt := 58) 23 [0, 1, 2, 4, 5, 6, 7, 8, 14, 32, 57] mixed rfl (by kernel_rfl) ?_; simp -dsimp [hv, hu, hq, hlt2, hw, hwq, hi0, hin0, hlu, hs]) | (with_reducible refine DT_regionE [0, 1, 2, 4, 5, 6, 7, 8, 14, 32, 57] ?_; simp -dsimp [hv, hu, hq, hlt2, hw, hwq, hi0, hin0, hlu, hs]) | (refine DT_cond rfl (fun h => ?_) (fun h => ?_) <;> (try simp only [nrm] at h) <;> (try exact Bool.noConfusion h))
            all_goals try simp -dsimp [hv, hu, hq, hlt2, hw, hwq, hi0, hin0, hlu, hs]
            all_goals try clear hs
            exact At.round ⟨i + 1, by omega, hnext⟩ (by simp; omega) (Weak.of_keep [1,5,8] (by simp))
      · rw [decide_eq_false hmem] at c2
        have hb := truth_bad (o := O) hx0 (.inl hmem)
        have hs : True := trivial
        repeat' first | (with_reducible first | refine q01 ?_ | refine q02 ?_ | refine q05 ?_ | refine q11 ?_ | refine q12 ?_ | refine q14 ?_ | refine q17 ?_) | (with_reducible refine At.fn_ret (by simp -dsimp [hv, hlt2, hs]; exact rfl) ?_) | (refine QCall_pure (c2) ?_; try simp -dsimp [hv, hlt2, hs]) | (refine DT_regionM (id := 10) (nt := 58) 23 [0, 1, 2, 4, 5, 6, 7, 8, 14, 32, 57] mixed rfl (by kernel_rfl) ?_; simp -dsimp [hv, hlt2, hs]) | (with_reducible refine DT_regionE [0, 1, 2, 4, 5, 6, 7, 8, 14, 32, 57] ?_; simp -dsimp [hv, hlt2, hs]) | (refine DT_cond rfl (fun h => ?_) (fun h => ?_) <;> (try simp only [nrm] at h) <;> (try exact Bool.noConfusion h))
        all_goals try simp -dsimp [hv, hlt2, hs]
        all_goals try clear hs
        all_goals simp [hb]
    · have hb : truthB O s = true := truth_good (truthTo_all (by rwa [show i = s.length by omega] at hto))
      have hs : True := trivial
      repeat' first | (with_reducible first | refine q01 ?_ | refine q03 ?_ | refine q06 ?_ | refine q11 ?_ | refine q16 ?_ | refine q17 ?_) | (with_reducible refine At.fn_ret (by simp -dsimp [hlt2, hs]; exact rfl) ?_) | (with_reducible refine DT_regionE [0, 1, 2, 4, 5, 6, 7, 8, 14, 32, 57] ?_; simp -dsimp [hlt2, hs]) | (refine DT_cond rfl (fun h => ?_) (fun h => ?_) <;> (try simp only [nrm] at h) <;> (try exact Bool.noConfusion h))
      all_goals try simp -dsimp [hlt2, hs]
      all_goals try clear hs
      all_goals simp [hb]
theorem asked3_c (n : Notes) (s : List Int) (m : Int) (hs : NSm n) (hsl : s.length < 1000) (objs : List DObj) : DCall Tryz.prog G 52 [notesv n, isv s, iv m] objs (fun rr objs' => rr = iv (askedE n s m) ∧ objs' = objs) := by
  refine DCall.frame ?_ (by simp) (by simp) objs
  refine DCall_intro Tryz.func52 rfl Tryz.ntmps52 (by simp) rfl ?_
  try simp only [notesv, isv, iv]
  have c1 := check3_c (G := G) n hs
  by_cases h0 : notesE n = 0
  · rw [h0] at c1
    have c2 := truth3_c (G := G) n s hs (notes_ok h0).2.2.1 hsl
    have c3 := within3_c (G := G) m 1 999
    have hE : askedE n s m = if truthB (isort (openL n.notes)) s = false then 31 else if 1 ≤ m ∧ m ≤ 999 then 0 else 2 := by unfold askedE; rw [if_neg (by simp [h0])]
    cases ht : truthB (isort (openL n.notes)) s
    · rw [ht] at c2 hE
      have hE : askedE n s m = 31 := by rw [hE]; rfl
      have hs : True := trivial
      repeat' first | (with_reducible first | refine q01 ?_ | refine q02 ?_ | refine q11 ?_ | refine q14 ?_ | refine q17 ?_) | (with_reducible refine At.fn_ret (by simp -dsimp [hs]; exact rfl) ?_) | (refine CallE.pure (c1) ?_; try simp -dsimp [hs]) | (refine CallE.pure (c2) ?_; try simp -dsimp [hs]) | (with_reducible refine DT_regionE [0, 1, 2, 3, 6, 7, 11, 16, 19] ?_; simp -dsimp [hs]) | (refine DT_cond rfl (fun h => ?_) (fun h => ?_) <;> (try simp only [nrm] at h) <;> (try exact Bool.noConfusion h))
      all_goals try simp -dsimp [hs]
      all_goals try clear hs
      all_goals simp [hE]
    · rw [ht] at c2 hE
      by_cases hm : 1 ≤ m ∧ m ≤ 999
      · have hE : askedE n s m = 0 := by rw [hE, if_neg (by simp), if_pos hm]
        rw [show (decide (1 ≤ m) && decide (m ≤ 999)) = true by simp [hm]] at c3
        have hs : True := trivial
        repeat' first | (with_reducible first | refine q01 ?_ | refine q11 ?_ | refine q14 ?_ | refine q17 ?_) | (with_reducible refine At.fn_ret (by simp -dsimp [hs]; exact rfl) ?_) | (refine CallE.pure (c1) ?_; try simp -dsimp [hs]) | (refine CallE.pure (c2) ?_; try simp -dsimp [hs]) | (refine CallE.pure (c3) ?_; try simp -dsimp [hs]) | (with_reducible refine DT_regionE [0, 1, 2, 3, 6, 7, 11, 16, 19] ?_; simp -dsimp [hs]) | (refine DT_cond rfl (fun h => ?_) (fun h => ?_) <;> (try simp only [nrm] at h) <;> (try exact Bool.noConfusion h))
        all_goals try simp -dsimp [hs]
        all_goals try clear hs
        all_goals simp [hE]
      · have hE : askedE n s m = 2 := by rw [hE, if_neg (by simp), if_neg hm]
        rw [show (decide (1 ≤ m) && decide (m ≤ 999)) = false by simp; omega] at c3
        have hs : True := trivial
        repeat' first | (with_reducible first | refine q01 ?_ | refine q02 ?_ | refine q11 ?_ | refine q14 ?_ | refine q17 ?_) | (with_reducible refine At.fn_ret (by simp -dsimp [hs]; exact rfl) ?_) | (refine CallE.pure (c1) ?_; try simp -dsimp [hs]) | (refine CallE.pure (c2) ?_; try simp -dsimp [hs]) | (refine CallE.pure (c3) ?_; try simp -dsimp [hs]) | (with_reducible refine DT_regionE [0, 1, 2, 3, 6, 7, 11, 16, 19] ?_; simp -dsimp [hs]) | (refine DT_cond rfl (fun h => ?_) (fun h => ?_) <;> (try simp only [nrm] at h) <;> (try exact Bool.noConfusion h))
        all_goals try simp -dsimp [hs]
        all_goals try clear hs
        all_goals simp [hE]
  · have hE : askedE n s m = notesE n := by unfold askedE; rw [if_pos h0]
    have hs : True := trivial
    repeat' first | (with_reducible first | refine q01 ?_ | refine q02 ?_ | refine q11 ?_ | refine q17 ?_) | (with_reducible refine At.fn_ret (by simp -dsimp [h0, hs]; exact rfl) ?_) | (refine CallE.pure (c1) ?_; try simp -dsimp [h0, hs]) | (with_reducible refine DT_regionE [0, 1, 2, 3, 6, 7, 11, 16, 19] ?_; simp -dsimp [h0, hs]) | (refine DT_cond rfl (fun h => ?_) (fun h => ?_) <;> (try simp only [nrm] at h) <;> (try exact Bool.noConfusion h))
    all_goals try simp -dsimp [h0, hs]
    all_goals try clear hs
    all_goals simp [hE, h0]
end Go.Proofs
namespace Go.Proofs
open Go Go.Ab
set_option linter.unusedSimpArgs false
variable {G : Nat → Option (List IC)}
def lettersK (n : Notes) (s : List Int) (m : Int) : List Int := (nums n.reg).map fun d => letterK n.notes (frcL s [] m n.notes) d
set_option maxHeartbeats 1000000 in
theorem letters3_c (n : Notes) (s : List Int) (m : Int) (hl : n.notes.length < 1000) (hr : n.reg.length < 1000) (hsl : s.length < 1000) (objs : List DObj) : DCall Tryz.prog G 59 [notesv n, isv s, iv m] objs (fun rr objs' => rr = isv (lettersK n s m) ∧ objs' = objs) := by
  refine DCall.frame ?_ (by simp) (by simp) objs
  refine DCall_intro Tryz.func59 rfl Tryz.ntmps59 (by simp) rfl ?_
  try simp only [notesv, isv, iv]
  have c1 := force3_c (G := G) n s [] m hl hsl (by simp)
  have c2 := numbers_c (G := G) n.reg (by omega)
  have hFl := frcL_len s [] m n.notes
  have c3 := fun d => letter3_c (G := G) n (frcL s [] m n.notes) d hFl hl
  have hrl := numsTo_length n.reg n.reg.length
  rw [show numsTo n.reg n.reg.length = nums n.reg from rfl] at hrl
  have hE : lettersK n s m = (nums n.reg).map fun d => letterK n.notes (frcL s [] m n.notes) d := rfl
  generalize frcL s [] m n.notes = F at *
  simp only [isv, List.map_nil] at c1
  have hs : True := trivial
  repeat' first | (with_reducible first | refine q01 ?_ | refine q11 ?_ | refine q12 ?_) | (refine CallE.pure (c1) ?_; try simp -dsimp [hs]) | (refine CallE.pure (c2) ?_; try simp -dsimp [hs]) | (with_reducible refine DT_regionE [0, 1, 2, 3, 6, 7, 8, 9, 10, 21] ?_; simp -dsimp [hs])
  all_goals try simp -dsimp [hs]
  all_goals try clear hs
  generalize hP : (fun d => letterK n.notes F d) = P at *
  have hPd : ∀ d, letterK n.notes F d = P d := fun d => by rw [← hP]
  generalize hns : nums n.reg = ns at *
  refine DT_loop (ι := { p : Nat × Nat × Bool // p.1 ≤ ns.length }) (fun p => ⟨35, [(3, .one (.ptr 0 0)), (7, bsv F), (8, .one (.vec 2 p.1.2.1 0 ((ns.take p.1.1).map P).length)), (9, isv ns), (10, iv (p.1.1 : Int))], [.row ((encNotes n).map .im), .vec 1 [] 0 true, .vec 1 (ims (((ns.take p.1.1).map P).map encI)) p.1.2.1 p.1.2.2]⟩) (fun p => ns.length - p.1.1) ⟨(0, 0, true), by simp⟩ (Weak.of_keep [3,7,8,9,10] (by simp)) ?_
  rintro ⟨⟨k, g, nl⟩, hk⟩
  simp only at hk
  simp only [iv, isv, bsv]
  have hlk : ((ns.take k).map P).length = k := by simp; omega
  by_cases hlt : k < ns.length
  · have hw : IntKind.i64.wrap ((k : Int) + 1) = ((k + 1 : Nat) : Int) := i64w (by omega) (by omega)
    have hst : (ns.take (k + 1)).map P = (ns.take k).map P ++ [P ns[k]] := by rw [List.take_succ_eq_append_getElem hlt, List.map_append, List.map_singleton]
    generalize hx : ns[k] = x at *
    have c4 := c3 x
    rw [hPd] at c4
    simp only [bsv] at c4
    generalize (ns.take k).map P = L at *
    subst hlk
    have hs : True := trivial
    repeat' first | (with_reducible first | refine q01 ?_ | refine q04 ?_ | refine q11 ?_ | refine q12 ?_ | refine q14 ?_ | refine And.intro (by omega) ?_) | (refine QCall_pure (c4) ?_; try simp -dsimp [hx, hlt, hw, hs]) | (refine DT_regionM (id := 7) (nt := 35) 9 [0, 1, 2, 3, 6, 7, 8, 9, 10, 21] mixed rfl (by kernel_rfl) ?_; simp -dsimp [hx, hlt, hw, hs]) | (with_reducible refine DT_regionE [0, 1, 2, 3, 6, 7, 8, 9, 10, 21] ?_; simp -dsimp [hx, hlt, hw, hs]) | (refine DT_cond rfl (fun h => ?_) (fun h => ?_) <;> (try simp only [nrm] at h) <;> (try exact Bool.noConfusion h))
    all_goals try simp -dsimp [hx, hlt, hw, hs]
    all_goals try clear hs
    all_goals exact At.round ⟨(L.length + 1, g + 1, false), by simp only; omega⟩ (by simp; omega) (Weak.of_drop [3,7,8,9,10] 3 (by simp) (by simp) (by simp [hst]))
  · obtain rfl : k = ns.length := by omega
    rw [List.take_length] at hlk ⊢
    have hs : True := trivial
    repeat' first | (with_reducible first | refine q01 ?_ | refine q03 ?_ | refine q06 ?_ | refine q11 ?_ | refine q16 ?_ | refine q17 ?_) | (with_reducible refine At.fn_ret (by simp -dsimp [hlt, hs]; exact rfl) ?_) | (with_reducible refine DT_regionE [0, 1, 2, 3, 6, 7, 8, 9, 10, 21] ?_; simp -dsimp [hlt, hs]) | (refine DT_cond rfl (fun h => ?_) (fun h => ?_) <;> (try simp only [nrm] at h) <;> (try exact Bool.noConfusion h))
    all_goals try simp -dsimp [hlt, hs]
    all_goals try clear hs
    simp [hE]
def byKn (n : Notes) (s : List Int) (m d : Int) : Int := if byK n.notes (frcL s [] m n.notes) d n.notes.length < 0 then 0 else match n.notes[(byK n.notes (frcL s [] m n.notes) d n.notes.length).toNat]? with | some x => x.number | none => 0
end Go.Proofs
namespace Go.Proofs
open Go Go.Ab
theorem byF_at (n : Notes) (s w : List Int) (m d : Int) : byF n s w m d n.notes.length = if byK n.notes (frcL s w m n.notes) d n.notes.length < 0 then note1 else (n.notes[(byK n.notes (frcL s w m n.notes) d n.notes.length).toNat]?).getD note1 := by
  unfold byF
  rw [byN_K _ _ _ _ (Nat.le_refl _)]
  split
  · rfl
  · split <;> simp [*]
theorem byK_get {l : List Note} {b : List Bool} {d : Int} {k : Nat} (hk : k ≤ l.length) (h : ¬ byK l b d k < 0) : (byK l b d k).toNat < l.length := by
  have := (byK_lt l b d k).2; omega
theorem letters_eq (n : Notes) (s : List Int) (m : Int) : lettersP n s m = lettersK n s m := by
  refine List.map_congr_left fun d _ => ?_
  rw [byF_at]
  unfold letterK
  rw [frcL_len]
  split
  · rfl
  · rename_i h
    have hl := byK_get (Nat.le_refl _) h
    rw [List.getElem?_eq_getElem hl]; rfl
theorem by_eq (n : Notes) (s : List Int) (m d : Int) : (byF n s [] m d n.notes.length).number = byKn n s m d := by
  rw [byF_at]
  unfold byKn
  split
  · rfl
  · rename_i h
    have hl := byK_get (Nat.le_refl _) h
    rw [List.getElem?_eq_getElem hl]; rfl
end Go.Proofs
namespace Go.Proofs
open Go Go.Ab
set_option linter.unusedSimpArgs false
variable {G : Nat → Option (List IC)}
theorem DT_freeze {P : Program} {nt : Nat} {tmps : List (Nat × DV)} {a : List DC} {es : List (List DC)} {g : Nat} {rest : List DObj} {c : Code} {Q : Exit → DS → Prop} (h : DT P G ⟨0, none⟩ c (DS.drop ⟨nt, tmps, DObj.row a :: DObj.vec 1 es g false :: rest⟩ 0) Q) : DT P G ⟨0, none⟩ c ⟨nt, tmps, DObj.row a :: DObj.vec 1 es g false :: rest⟩ Q :=
  DT_weak (Weak.drop (Nat.zero_le _) (Nat.zero_le _)) h
def NKind (n : Notes) : Prop := (∀ x ∈ n.reg, 0 ≤ x.kind ∧ x.kind ≤ 255) ∧ ∀ x ∈ n.notes, 0 ≤ x.ways ∧ x.ways ≤ 255 ∧ 0 ≤ x.signed ∧ x.signed ≤ 255
theorem NSm_of {n : Notes} (hk : NKind n) (h : smallNB n = true) : SmallN n ∧ NSm n := by
  simp only [smallNB, Bool.and_eq_true, decide_eq_true_eq] at h
  refine ⟨h, ⟨h.1.1, fun x hx => ⟨(hk.1 x hx).1, (hk.1 x hx).2, h.1.2 x hx⟩⟩, h.2, hk.2⟩
end Go.Proofs
namespace Go.Proofs
open Go Go.Ab
theorem len10 {α : Type} {l : List α} (h : l.length = 10) : ∃ a b c d e f g i j k, l = [a, b, c, d, e, f, g, i, j, k] := by
  match l, h with
  | [a, b, c, d, e, f, g, i, j, k], _ => exact ⟨a, b, c, d, e, f, g, i, j, k, rfl⟩
def noteIn (x : Note) : Prop := 0 ≤ x.ways ∧ x.ways ≤ 255 ∧ 0 ≤ x.signed ∧ x.signed ≤ 255
def noteP : Nat → List IC → Prop
  | 2 => fun l => ∃ n : Int, (0 ≤ n ∧ n ≤ 255) ∧ l = [.raw (.int .u8 n)]
  | 8 => fun l => ∃ b : Bool, l = [rB b]
  | 9 => fun l => ∃ n : Int, (0 ≤ n ∧ n ≤ 255) ∧ l = [.raw (.int .u8 n)]
  | _ => fun l => ∃ n : Int, l = [rI n]
theorem rdNote : Rd 64 encNote noteIn := (Opens.struct Tryz.underlying64 (by kernel_rfl) noteP (fun i f hf => by
    rcases i with _ | _ | _ | _ | _ | _ | _ | _ | _ | _ | i <;> simp at hf <;> subst hf
    · exact oInt
    · exact oInt
    · exact oU8
    · exact oInt
    · exact oInt
    · exact oInt
    · exact oInt
    · exact oInt
    · exact oBool
    · exact oU8)).mono (by
  rintro l ⟨ls, h1, h2, rfl⟩
  obtain ⟨a, b, c, d, e, f, g, i, j, k, rfl⟩ := len10 h1
  obtain ⟨x0, rfl⟩ := h2 0 a rfl
  obtain ⟨x1, rfl⟩ := h2 1 b rfl
  obtain ⟨x2, k2, rfl⟩ := h2 2 c rfl
  obtain ⟨x3, rfl⟩ := h2 3 d rfl
  obtain ⟨x4, rfl⟩ := h2 4 e rfl
  obtain ⟨x5, rfl⟩ := h2 5 f rfl
  obtain ⟨x6, rfl⟩ := h2 6 g rfl
  obtain ⟨x7, rfl⟩ := h2 7 i rfl
  obtain ⟨x8, rfl⟩ := h2 8 j rfl
  obtain ⟨x9, k9, rfl⟩ := h2 9 k rfl
  exact ⟨⟨x0, x1, x2, x3, x4, x5, x6, x7, x8, x9⟩, ⟨k9.1, k9.2, k2.1, k2.2⟩, rfl⟩)
theorem oNoteL : Opens Tryz.prog 49 (fun l => ∃ xs : List Note, (∀ x ∈ xs, noteIn x) ∧ l = [.sl (xs.map encNote)]) :=
  Opens.sliceOf Tryz.underlying49 (sz := 10) (by kernel_rfl) (by decide) (fun _ => rfl) rdNote
def notesP : Nat → List IC → Prop
  | 0 => fun l => ∃ xs : List Issue, (∀ x ∈ xs, kindIn x) ∧ l = [.sl (xs.map encIssue)]
  | _ => fun l => ∃ xs : List Note, (∀ x ∈ xs, noteIn x) ∧ l = [.sl (xs.map encNote)]
theorem rdNotes : Rd 51 encNotes NKind := (Opens.struct Tryz.underlying51 (by kernel_rfl) notesP (fun i f hf => by
    rcases i with _ | _ | i <;> simp at hf <;> subst hf
    · exact oReg
    · exact oNoteL)).mono (by
  rintro l ⟨ls, h1, h2, rfl⟩
  obtain ⟨a, b, rfl⟩ := len2 h1
  obtain ⟨x, hx, rfl⟩ := h2 0 a rfl
  obtain ⟨y, hy, rfl⟩ := h2 1 b rfl
  exact ⟨⟨x, y⟩, ⟨hx, hy⟩, rfl⟩)
theorem gNote : Tryz.prog.globalNamed "blueline/note.checks" = some 1 := by kernel_rfl
theorem tNote : (Tryz.prog.globals[1]?).map (·.type) = some 180 := by kernel_rfl
end Go.Proofs
namespace Go.Ab
open Go Go.ChangeShapes Go.RowKit
section
variable {H : Type} {enc : TypeId × Value → H} {P : Program} {w : World} {base : Nat} {spare : Nat → Bool} {held : Bool}
theorem trodAll_five {t0 t1 t2 t3 t4 : TypeId} {args : Array Value} {ds : List (DataW H)} {ps : List MemPlace} (h : DataW.TrodAll enc P w base spare held [t0, t1, t2, t3, t4] args.toList ds ps) :
    ∃ v0 v1 v2 v3 v4 d0 d1 d2 d3 d4 p0 p1 p2 p3 p4, args = #[v0, v1, v2, v3, v4] ∧ ds = [d0, d1, d2, d3, d4] ∧ ps = p0 ++ p1 ++ p2 ++ p3 ++ p4 ∧ DataW.Trod enc P w base spare held t0 v0 d0 p0 ∧ DataW.Trod enc P w base spare held t1 v1 d1 p1 ∧ DataW.Trod enc P w base spare held t2 v2 d2 p2 ∧ DataW.Trod enc P w base spare held t3 v3 d3 p3 ∧ DataW.Trod enc P w base spare held t4 v4 d4 p4 := by
  obtain ⟨v0, l0, d0, e0, p0, q0, hargs, rfl, rfl, k0, h⟩ := trodAll_cons h
  obtain ⟨v1, l1, d1, e1, p1, q1, rfl, rfl, rfl, k1, h⟩ := trodAll_cons h
  obtain ⟨v2, l2, d2, e2, p2, q2, rfl, rfl, rfl, k2, h⟩ := trodAll_cons h
  obtain ⟨v3, l3, d3, e3, p3, q3, rfl, rfl, rfl, k3, h⟩ := trodAll_cons h
  obtain ⟨v4, l4, d4, e4, p4, q4, rfl, rfl, rfl, k4, h⟩ := trodAll_cons h
  obtain ⟨rfl, rfl, rfl⟩ := trodAll_nil h
  exact ⟨v0, v1, v2, v3, v4, d0, d1, d2, d3, d4, p0, p1, p2, p3, p4, by cases args; simp_all, rfl, by simp, k0, k1, k2, k3, k4⟩
theorem trodAll_mk5 {t0 t1 t2 t3 t4 : TypeId} {v0 v1 v2 v3 v4 : Value} {d0 d1 d2 d3 d4 : DataW H} {p0 p1 p2 p3 p4 : List MemPlace} (h0 : DataW.Trod enc P w base spare held t0 v0 d0 p0) (h1 : DataW.Trod enc P w base spare held t1 v1 d1 p1)
    (h2 : DataW.Trod enc P w base spare held t2 v2 d2 p2) (h3 : DataW.Trod enc P w base spare held t3 v3 d3 p3) (h4 : DataW.Trod enc P w base spare held t4 v4 d4 p4) :
    DataW.TrodAll enc P w base spare held [t0, t1, t2, t3, t4] [v0, v1, v2, v3, v4] [d0, d1, d2, d3, d4] (p0 ++ (p1 ++ (p2 ++ (p3 ++ p4)))) := ⟨p0, p1 ++ (p2 ++ (p3 ++ p4)), h0, trodAll_mk4 h1 h2 h3 h4, rfl⟩
end
end Go.Ab
namespace Go.Ab
open Go
/-- The first one of so many numbers, in their order, behind l. -/
def findL (p : List Int → Bool) : List Int → Nat → List Int → Option (List Int)
  | [], 0, l => if p l then some l else none
  | [], _ + 1, _ => none
  | _ :: _, 0, l => if p l then some l else none
  | a :: r, k + 1, l => match findL p r k (l ++ [a]) with
    | some x => some x
    | none => findL p r (k + 1) l
theorem findL_zero (p : List Int → Bool) (A l : List Int) : findL p A 0 l = if p l then some l else none := by cases A <;> rfl
/-- The first number that differs is less. -/
def lexB : List Int → List Int → Bool
  | a :: x, b :: y => if a = b then lexB x y else decide (a < b)
  | _, _ => false
theorem lexB_irr : ∀ x : List Int, lexB x x = false
  | [] => rfl
  | a :: x => by simp [lexB, lexB_irr x]
theorem lexB_total : ∀ x y : List Int, x.length = y.length → lexB x y = false → lexB y x = false → x = y
  | [], [], _, _, _ => rfl
  | a :: x, b :: y, h, h1, h2 => by
    simp only [lexB] at h1 h2
    by_cases e : a = b
    · subst e
      rw [if_pos rfl] at h1 h2
      rw [lexB_total x y (by simpa using h) h1 h2]
    · rw [if_neg e, decide_eq_false_iff_not] at h1
      rw [if_neg (Ne.symm e), decide_eq_false_iff_not] at h2
      omega
theorem findL_none {p : List Int → Bool} : ∀ (A : List Int) (k : Nat) (l : List Int), findL p A k l = none → ∀ z : List Int, z.Sublist A → z.length = k → p (l ++ z) = false
  | A, 0, l, h, z, hz, hl => by
    rw [findL_zero] at h
    obtain rfl := List.eq_nil_of_length_eq_zero hl
    rw [List.append_nil]
    split at h
    · cases h
    · simp_all
  | [], k + 1, l, h, z, hz, hl => by
    have := hz.length_le
    simp at this; rw [this] at hl; cases hl
  | a :: r, k + 1, l, h, z, hz, hl => by
    simp only [findL] at h
    split at h
    · cases h
    · rename_i h1
      cases hz with
      | cons _ hz => exact findL_none r (k + 1) l h z hz hl
      | cons_cons _ hz =>
        rename_i z'
        have := findL_none r k (l ++ [a]) h1 z' hz (by simpa using hl)
        rw [List.append_assoc] at this; exact this
theorem findL_some {p : List Int → Bool} : ∀ (A : List Int) (k : Nat) (l x : List Int), A.Pairwise (· < ·) → findL p A k l = some x → ∃ y : List Int, y.Sublist A ∧ y.length = k ∧ x = l ++ y ∧ p x = true ∧ ∀ z : List Int, z.Sublist A → z.length = k → p (l ++ z) = true → lexB z y = false
  | A, 0, l, x, _, h => by
    rw [findL_zero] at h
    split at h
    · cases h
      exact ⟨[], by simp, rfl, by simp, by assumption, fun z _ hl _ => by rw [List.eq_nil_of_length_eq_zero hl]; rfl⟩
    · cases h
  | [], k + 1, l, x, _, h => by cases h
  | a :: r, k + 1, l, x, hA, h => by
    obtain ⟨ha, hr⟩ := List.pairwise_cons.1 hA
    simp only [findL] at h
    split at h
    · rename_i x' h1
      cases h
      obtain ⟨y, h2, h3, h4, h5, h6⟩ := findL_some r k (l ++ [a]) _ hr h1
      refine ⟨a :: y, h2.cons_cons a, by simp [h3], by rw [h4, List.append_assoc]; rfl, h5, fun z hz hl hp => ?_⟩
      cases hz with
      | cons _ hz =>
        cases z with
        | nil => cases hl
        | cons b z =>
          have hb : a < b := ha b (hz.subset (by simp))
          simp only [lexB]
          rw [if_neg (by omega), decide_eq_false_iff_not]; omega
      | cons_cons _ hz =>
        rename_i z'
        simp only [lexB, if_true]
        exact h6 z' hz (by simpa using hl) (by rw [List.append_assoc]; exact hp)
    · rename_i h1
      obtain ⟨y, h2, h3, h4, h5, h6⟩ := findL_some r (k + 1) l x hr h
      refine ⟨y, h2.cons a, h3, h4, h5, fun z hz hl hp => ?_⟩
      cases hz with
      | cons _ hz => exact h6 z hz hl hp
      | cons_cons _ hz =>
        rename_i z'
        have := findL_none r k (l ++ [a]) h1 z' hz (by simpa using hl)
        rw [List.append_assoc] at this
        rw [show l ++ a :: z' = l ++ ([a] ++ z') from rfl, this] at hp; cases hp
/-- Fewer, or as many and before. -/
def befL (x y : List Int) : Bool := if x.length = y.length then lexB x y else decide (x.length < y.length)
theorem befL_total {x y : List Int} (h1 : befL x y = false) (h2 : befL y x = false) : x = y := by
  unfold befL at h1 h2
  by_cases e : x.length = y.length
  · rw [if_pos e] at h1; rw [if_pos e.symm] at h2
    exact lexB_total x y e h1 h2
  · rw [if_neg e, decide_eq_false_iff_not] at h1
    rw [if_neg (Ne.symm e), decide_eq_false_iff_not] at h2; omega
/-- The program's answer: the sizes one behind another. -/
def sizesL (p : List Int → Bool) (A : List Int) : Nat → Option (List Int)
  | 0 => none
  | k + 1 => match sizesL p A k with
    | some x => some x
    | none => findL p A k []
theorem sizesL_none {p : List Int → Bool} {A : List Int} : ∀ k, sizesL p A k = none → ∀ z : List Int, z.Sublist A → z.length < k → p z = false
  | 0, _, z, _, h => by omega
  | k + 1, h, z, hz, hl => by
    simp only [sizesL] at h
    split at h
    · cases h
    · rename_i h1
      by_cases e : z.length = k
      · simpa using findL_none A k [] h z hz e
      · exact sizesL_none k h1 z hz (by omega)
theorem sizesL_some {p : List Int → Bool} {A : List Int} (hA : A.Pairwise (· < ·)) : ∀ k x, sizesL p A k = some x → x.Sublist A ∧ p x = true ∧ ∀ z : List Int, z.Sublist A → p z = true → befL z x = false
  | 0, x, h => by cases h
  | k + 1, x, h => by
    simp only [sizesL] at h
    split at h
    · cases h; exact sizesL_some hA k x (by assumption)
    · rename_i h1
      obtain ⟨y, h2, h3, h4, h5, h6⟩ := findL_some A k [] x hA h
      rw [List.nil_append] at h4
      subst h4
      refine ⟨h2, h5, fun z hz hp => ?_⟩
      unfold befL
      split
      · rename_i e
        exact h6 z hz (by omega) (by simpa using hp)
      · rw [decide_eq_false_iff_not]
        intro hlt
        have := sizesL_none k h1 z hz (by omega)
        rw [hp] at this; cases this
/-- The reference's answer: the best of the first sets. -/
def bestL (p : List Int → Bool) (f : Nat → List Int) : Nat → Option (List Int)
  | 0 => none
  | k + 1 => match bestL p f k with
    | none => if p (f k) then some (f k) else none
    | some b => if (befL (f k) b && p (f k)) = true then some (f k) else some b
theorem befL_trans_no {x y z : List Int} (h1 : befL x y = true) (h2 : befL z y = false) : befL z x = false := by
  have lexT : ∀ x y z : List Int, x.length = y.length → z.length = y.length → lexB x y = true → lexB z y = false → lexB z x = false := by
    intro x
    induction x with
    | nil => intro y z _ _ h; simp [lexB] at h
    | cons a x ih =>
      intro y z hl hl2 h h'
      cases y with
      | nil => simp [lexB] at h
      | cons b y =>
        cases z with
        | nil => cases hl2
        | cons c z =>
          simp only [lexB] at h h' ⊢
          by_cases e1 : a = b
          · subst e1
            rw [if_pos rfl] at h
            by_cases e2 : c = a
            · subst e2
              rw [if_pos rfl] at h' ⊢
              exact ih y z (by simpa using hl) (by simpa using hl2) h h'
            · rw [if_neg e2] at h' ⊢; exact h'
          · rw [if_neg e1, decide_eq_true_eq] at h
            by_cases e2 : c = b
            · subst e2
              rw [if_neg (Ne.symm e1), decide_eq_false_iff_not]; omega
            · rw [if_neg e2, decide_eq_false_iff_not] at h'
              rw [if_neg (by omega), decide_eq_false_iff_not]; omega
  unfold befL at *
  by_cases e1 : x.length = y.length
  · rw [if_pos e1] at h1
    by_cases e2 : z.length = y.length
    · rw [if_pos e2] at h2
      rw [if_pos (by omega)]
      exact lexT x y z e1 e2 h1 h2
    · rw [if_neg e2, decide_eq_false_iff_not] at h2
      rw [if_neg (by omega), decide_eq_false_iff_not]; omega
  · rw [if_neg e1, decide_eq_true_eq] at h1
    by_cases e2 : z.length = y.length
    · rw [if_neg (by omega), decide_eq_false_iff_not]; omega
    · rw [if_neg e2, decide_eq_false_iff_not] at h2
      rw [if_neg (by omega), decide_eq_false_iff_not]; omega
theorem bestL_none {p : List Int → Bool} {f : Nat → List Int} : ∀ k, bestL p f k = none → ∀ i < k, p (f i) = false
  | 0, _, i, h => by omega
  | k + 1, h, i, hi => by
    simp only [bestL] at h
    split at h
    · rename_i h1
      split at h
      · cases h
      · by_cases e : i = k
        · subst e; simp_all
        · exact bestL_none k h1 i (by omega)
    · split at h <;> cases h
theorem bestL_some {p : List Int → Bool} {f : Nat → List Int} : ∀ k x, bestL p f k = some x → (∃ i < k, x = f i) ∧ p x = true ∧ ∀ i < k, p (f i) = true → befL (f i) x = false
  | 0, x, h => by cases h
  | k + 1, x, h => by
    simp only [bestL] at h
    split at h
    · rename_i h1
      split at h
      · rename_i hp
        cases h
        refine ⟨⟨k, by omega, rfl⟩, hp, fun i hi hpi => ?_⟩
        by_cases e : i = k
        · subst e; unfold befL; rw [if_pos rfl]; exact lexB_irr _
        · have := bestL_none k h1 i (by omega)
          rw [hpi] at this; cases this
      · cases h
    · rename_i b h1
      obtain ⟨⟨j, hj, e1⟩, e2, e3⟩ := bestL_some k b h1
      split at h
      · rename_i hc
        cases h
        rw [Bool.and_eq_true] at hc
        refine ⟨⟨k, by omega, rfl⟩, hc.2, fun i hi hpi => ?_⟩
        by_cases e : i = k
        · subst e; unfold befL; rw [if_pos rfl]; exact lexB_irr _
        · exact befL_trans_no hc.1 (e3 i (by omega) hpi)
      · rename_i hc
        cases h
        refine ⟨⟨j, by omega, e1⟩, e2, fun i hi hpi => ?_⟩
        by_cases e : i = k
        · subst e
          rw [Bool.and_eq_true] at hc
          exact Bool.eq_false_iff.2 fun hb => hc ⟨hb, hpi⟩
        · exact e3 i (by omega) hpi
/-- Both answers are one, where the sets are all sublists. -/
theorem best_eq {p : List Int → Bool} {A : List Int} (hA : A.Pairwise (· < ·)) {f : Nat → List Int} {k : Nat} (h1 : ∀ i < k, (f i).Sublist A) (h2 : ∀ z : List Int, z.Sublist A → ∃ i < k, f i = z) : sizesL p A (A.length + 1) = bestL p f k := by
  cases hs : sizesL p A (A.length + 1) with
  | none =>
    have hn := sizesL_none _ hs
    cases hb : bestL p f k with
    | none => rfl
    | some b =>
      obtain ⟨⟨i, hi, e⟩, hp, _⟩ := bestL_some k b hb
      have := hn b (e ▸ h1 i hi) (by have := (e ▸ h1 i hi : b.Sublist A).length_le; omega)
      rw [hp] at this; cases this
  | some x =>
    obtain ⟨hx, hp, hmin⟩ := sizesL_some hA _ x hs
    cases hb : bestL p f k with
    | none =>
      obtain ⟨i, hi, e⟩ := h2 x hx
      have := bestL_none k hb i hi
      rw [e, hp] at this; cases this
    | some b =>
      obtain ⟨⟨i, hi, e⟩, hpb, hminb⟩ := bestL_some k b hb
      obtain ⟨j, hj, e2⟩ := h2 x hx
      have g1 := hmin b (e ▸ h1 i hi) hpb
      have g2 := hminb j hj (by rw [e2]; exact hp)
      rw [e2] at g2
      rw [befL_total g2 g1]
end Go.Ab
namespace Go.Ab
open Go
theorem isort_mem' {l : List Int} {n : Int} : n ∈ isort l ↔ n ∈ l := (List.mergeSort_perm l _).mem_iff
theorem isort_strict {l : List Int} (h : l.Nodup) : (isort l).Pairwise (· < ·) := by
  have h1 : (isort l).Nodup := (List.mergeSort_perm l _).nodup_iff.2 h
  have h2 := List.pairwise_mergeSort (le := fun x y : Int => decide (x ≤ y)) (fun a b c h1 h2 => by simp at *; omega) (fun a b => by simp; omega) l
  rw [List.nodup_iff_pairwise_ne] at h1
  refine (h1.and h2).imp ?_
  rintro a b ⟨h3, h4⟩
  simp at h4; omega
theorem strict_sub : ∀ (X Y : List Int), X.Pairwise (· < ·) → Y.Pairwise (· < ·) → (∀ x ∈ X, x ∈ Y) → X.Sublist Y
  | [], Y, _, _, _ => by simp
  | a :: x, [], _, _, h => by have := h a (by simp); simp at this
  | a :: x, b :: y, hX, hY, h => by
    obtain ⟨h1, h2⟩ := List.pairwise_cons.1 hX
    obtain ⟨h3, h4⟩ := List.pairwise_cons.1 hY
    by_cases e : a = b
    · subst e
      refine List.Sublist.cons_cons a (strict_sub x y h2 h4 fun z hz => ?_)
      rcases List.mem_cons.1 (h z (by simp [hz])) with rfl | hm
      · have := h1 z hz; omega
      · exact hm
    · refine List.Sublist.cons b (strict_sub (a :: x) y hX h4 fun z hz => ?_)
      have hab : b < a := by
        rcases List.mem_cons.1 (h a (by simp)) with rfl | hm
        · exact absurd rfl e
        · exact h3 a hm
      rcases List.mem_cons.1 (h z hz) with rfl | hm
      · rcases List.mem_cons.1 hz with rfl | hz
        · omega
        · have := h1 z hz; omega
      · exact hm
theorem strict_eq {X Y : List Int} (hX : X.Pairwise (· < ·)) (hY : Y.Pairwise (· < ·)) (h : ∀ x, x ∈ X ↔ x ∈ Y) : X = Y :=
  (strict_sub X Y hX hY fun x hx => (h x).1 hx).eq_of_length_le (strict_sub Y X hY hX fun x hx => (h x).2 hx).length_le
/-- A set for any choice. -/
theorem mask_ex (f : Nat → Bool) : ∀ n : Nat, ∃ s : Nat, s < 2 ^ n ∧ ∀ i < n, s.testBit i = f i
  | 0 => ⟨0, by simp, fun i hi => by omega⟩
  | n + 1 => by
    obtain ⟨s, h1, h2⟩ := mask_ex f n
    cases hf : f n
    · refine ⟨s, by rw [Nat.pow_succ]; omega, fun i hi => ?_⟩
      by_cases e : i = n
      · subst e; rw [hf]; exact Nat.testBit_lt_two_pow h1
      · exact h2 i (by omega)
    · refine ⟨2 ^ n + s, by rw [Nat.pow_succ]; omega, fun i hi => ?_⟩
      by_cases e : i = n
      · subst e; rw [hf, Nat.testBit_two_pow_add_eq, Nat.testBit_lt_two_pow h1]; rfl
      · rw [Nat.testBit_two_pow_add_gt (by omega)]; exact h2 i (by omega)
/-- What is in a set of so many numbers. -/
def selN (N : List Int) (s : Nat) (k : Nat) : List Int := ((List.range k).filter fun i => s.testBit i).map fun i => N.getD i 0
theorem selN_succ (N : List Int) (s k : Nat) : selN N s (k + 1) = selN N s k ++ (if s.testBit k = true then [N.getD k 0] else []) := by
  unfold selN
  rw [List.range_succ, List.filter_append, List.map_append]
  congr 1
  by_cases h : s.testBit k = true <;> simp [h]
theorem selN_mem {N : List Int} {s k : Nat} (hk : k ≤ N.length) {x : Int} : x ∈ selN N s k ↔ ∃ i, i < k ∧ s.testBit i = true ∧ N[i]? = some x := by
  simp only [selN, List.mem_map, List.mem_filter, List.mem_range]
  constructor
  · rintro ⟨i, ⟨h1, h2⟩, rfl⟩
    have hi : i < N.length := by omega
    exact ⟨i, h1, h2, by simp [hi]⟩
  · rintro ⟨i, h1, h2, h3⟩
    exact ⟨i, ⟨h1, h2⟩, by simp [h3]⟩
theorem selN_nodup {N : List Int} (hN : N.Nodup) {s k : Nat} (hk : k ≤ N.length) : (selN N s k).Nodup := by
  unfold selN
  rw [List.nodup_iff_pairwise_ne, List.pairwise_map]
  have hr : ((List.range k).filter fun i => s.testBit i).Nodup := List.nodup_range.filter _
  rw [List.nodup_iff_pairwise_ne] at hr
  refine List.Pairwise.imp_of_mem ?_ hr
  intro a b ha hb hab e
  simp only [List.mem_filter, List.mem_range] at ha hb
  have h1 : a < N.length := by omega
  have h2 : b < N.length := by omega
  simp only [List.getD_eq_getElem?_getD, List.getElem?_eq_getElem h1, List.getElem?_eq_getElem h2, Option.getD_some] at e
  exact hab ((List.getElem_inj hN).1 e)
theorem sel_all {N : List Int} (hN : N.Nodup) : (∀ s < 2 ^ N.length, (isort (selN N s N.length)).Sublist (isort N)) ∧ ∀ z : List Int, z.Sublist (isort N) → ∃ s < 2 ^ N.length, isort (selN N s N.length) = z := by
  have hA := isort_strict hN
  constructor
  · intro s _
    refine strict_sub _ _ (isort_strict (selN_nodup hN (Nat.le_refl _))) hA fun x hx => ?_
    rw [isort_mem'] at hx ⊢
    obtain ⟨i, _, _, h⟩ := (selN_mem (Nat.le_refl _)).1 hx
    exact List.mem_of_getElem? h
  · intro z hz
    obtain ⟨s, h1, h2⟩ := mask_ex (fun i => decide (N.getD i 0 ∈ z)) N.length
    refine ⟨s, h1, strict_eq (isort_strict (selN_nodup hN (Nat.le_refl _))) (hA.sublist hz) fun x => ?_⟩
    rw [isort_mem', selN_mem (Nat.le_refl _)]
    constructor
    · rintro ⟨i, hi, hb, hx⟩
      rw [h2 i hi, decide_eq_true_eq] at hb
      simpa [hx] using hb
    · intro hx
      have hm : x ∈ N := isort_mem'.1 (hz.subset hx)
      obtain ⟨i, hi, e⟩ := List.mem_iff_getElem.1 hm
      refine ⟨i, hi, ?_, by rw [List.getElem?_eq_getElem hi, e]⟩
      rw [h2 i hi, decide_eq_true_eq]
      simpa [hi, e] using hx
end Go.Ab
namespace Go.Ab
open Go
theorem isort_ins {l : List Int} {x : Int} {q : Nat} (hq : q ≤ (isort l).length) (h1 : ∀ j ∈ (isort l).drop q, x ≤ j) (h2 : ∀ r, r + 1 = q → ∀ v, (isort l)[r]? = some v → v ≤ x) : isort (l ++ [x]) = (isort l).take q ++ x :: (isort l).drop q := by
  have hs : (isort l).Pairwise (· ≤ ·) := by
    have := List.pairwise_mergeSort (le := fun x y : Int => decide (x ≤ y)) (fun a b c h1 h2 => by simp at *; omega) (fun a b => by simp; omega) l
    exact this.imp (by intro a b h; simpa using h)
  have hs2 : (isort (l ++ [x])).Pairwise (· ≤ ·) := by
    have := List.pairwise_mergeSort (le := fun x y : Int => decide (x ≤ y)) (fun a b c h1 h2 => by simp at *; omega) (fun a b => by simp; omega) (l ++ [x])
    exact this.imp (by intro a b h; simpa using h)
  have hp1 : (isort l).Perm l := List.mergeSort_perm l _
  have hp2 : (isort (l ++ [x])).Perm (l ++ [x]) := List.mergeSort_perm _ _
  generalize isort l = S at *
  have ht : (S.take q ++ x :: S.drop q).Pairwise (· ≤ ·) := by
    rw [← List.take_append_drop q S, List.pairwise_append] at hs
    obtain ⟨ha, hb, hc⟩ := hs
    rw [List.pairwise_append]
    refine ⟨ha, List.pairwise_cons.2 ⟨h1, hb⟩, ?_⟩
    have hx : ∀ a ∈ S.take q, a ≤ x := by
      intro a hm
      cases q with
      | zero => simp at hm
      | succ r =>
        have hr : r < S.length := by omega
        have hv := h2 r rfl S[r] (by simp [hr])
        rw [List.take_succ_eq_append_getElem hr] at hm ha
        rcases List.mem_append.1 hm with h | h
        · have := (List.pairwise_append.1 ha).2.2 a h S[r] (by simp)
          omega
        · simp at h; omega
    intro a hm b hb'
    rcases List.mem_cons.1 hb' with rfl | hb'
    · exact hx a hm
    · exact hc a hm b hb'
  have hp : (isort (l ++ [x])).Perm (S.take q ++ x :: S.drop q) := hp2.trans ((List.perm_append_singleton x l).trans ((hp1.symm.cons x).trans (by
    have := (List.perm_middle (a := x) (l₁ := S.take q) (l₂ := S.drop q)).symm
    rwa [List.take_append_drop] at this)))
  exact List.Perm.eq_of_pairwise (fun a b _ _ h1 h2 => by omega) hs2 ht hp
theorem bit_at (s i : Nat) : IntKind.i64.wrap ((BitVec.ofInt 64 ((s : Int).fdiv (2 ^ i)) &&& BitVec.ofInt 64 1).toNat : Int) = if s.testBit i = true then 1 else 0 := by
  have e1 : (s : Int).fdiv (2 ^ i) = ((s / 2 ^ i : Nat) : Int) := by
    rw [Int.fdiv_eq_ediv_of_nonneg _ (by exact Int.pow_nonneg (by omega))]
    simp
  have e2 : (BitVec.ofInt 64 ((s / 2 ^ i : Nat) : Int) &&& BitVec.ofInt 64 1).toNat = (s / 2 ^ i) % 2 := by
    have h1 : (BitVec.ofInt 64 1) = 1#64 := by decide
    rw [h1, BitVec.ofInt_natCast, BitVec.toNat_and, BitVec.toNat_ofNat, BitVec.toNat_ofNat]
    rw [show (1 % 2 ^ 64 : Nat) = 1 by decide, Nat.and_one_is_mod]
    omega
  rw [e1, e2, Nat.testBit_eq_decide_div_mod_eq]
  rcases Nat.mod_two_eq_zero_or_one (s / 2 ^ i) with h | h
  · rw [h]; simp; decide
  · rw [h]; simp; decide
end Go.Ab
namespace Go.Ab
open Go
theorem findL_short {p : List Int → Bool} : ∀ (A : List Int) (k : Nat) (l : List Int), A.length < k → findL p A k l = none
  | A, 0, l, h => by omega
  | [], k + 1, l, _ => rfl
  | a :: r, k + 1, l, h => by
    simp only [List.length_cons] at h
    simp only [findL, findL_short r k (l ++ [a]) (by omega), findL_short r (k + 1) l (by omega)]
theorem findL_len {p : List Int → Bool} : ∀ (A : List Int) (k : Nat) (l x : List Int), findL p A k l = some x → x.length = l.length + k
  | A, 0, l, x, h => by
    rw [findL_zero] at h
    split at h
    · cases h; rfl
    · cases h
  | [], k + 1, l, x, h => by cases h
  | a :: r, k + 1, l, x, h => by
    simp only [findL] at h
    split at h
    · rename_i y h1
      cases h
      have := findL_len r k (l ++ [a]) _ h1
      simp at this; omega
    · exact findL_len r (k + 1) l x h
theorem findL_at {p : List Int → Bool} {A : List Int} {i k : Nat} {l : List Int} (h : i < A.length) : findL p (A.drop i) (k + 1) l = match findL p (A.drop (i + 1)) k (l ++ [A[i]]) with
    | some x => some x
    | none => findL p (A.drop (i + 1)) (k + 1) l := by
  rw [List.drop_eq_getElem_cons h]; rfl
theorem sizesL_next {p : List Int → Bool} {A : List Int} {k : Nat} (h1 : sizesL p A k = none) : sizesL p A (k + 1) = findL p A k [] := by
  simp only [sizesL, h1]
theorem sizesL_mono {p : List Int → Bool} {A x : List Int} {k : Nat} (h : sizesL p A k = some x) : ∀ d, sizesL p A (k + d) = some x
  | 0 => h
  | d + 1 => by
    rw [← Nat.add_assoc]
    simp only [sizesL, sizesL_mono h d]
theorem sizesL_hit {p : List Int → Bool} {A x : List Int} {k m : Nat} (h1 : sizesL p A k = none) (h2 : findL p A k [] = some x) (h : k < m) : sizesL p A m = some x := by
  have := sizesL_mono (sizesL_next h1 ▸ h2 : sizesL p A (k + 1) = some x) (m - (k + 1))
  rwa [show k + 1 + (m - (k + 1)) = m by omega] at this
/-- A list, or a nil slice. -/
def resV : Option (List Int) → DV
  | some x => isv x
  | none => .one (.im (.raw (.slice none 0 0)))
end Go.Ab
namespace Go.Proofs
open Go Go.Ab
set_option linter.unusedSimpArgs false
variable {G : Nat → Option (List IC)}
theorem isortL (l : List Int) : (isort l).length = l.length := (List.mergeSort_perm l _).length_eq
theorem selN_len (N : List Int) (s k : Nat) : (selN N s k).length ≤ k := by
  induction k with
  | zero => simp [selN]
  | succ k ih =>
    rw [selN_succ]
    split <;> simp <;> omega
theorem some_c (l : List Int) (s : Nat) (hl : l.length ≤ 60) (objs : List DObj) : DCall Tryz.prog G 61 [isv l, iv (s : Int)] objs (fun rr objs' => rr = isv (selN l s l.length) ∧ objs' = objs) := by
  refine DCall.frame ?_ (by simp) (by simp) objs
  refine DCall_intro Tryz.func61 rfl Tryz.ntmps61 (by simp) rfl ?_
  try simp only [isv, iv]
  have hs0 : (0 : Int) ≤ (s : Int) := by omega
  have hz : selN l s 0 = [] := by simp [selN]
  have hs : True := trivial
  repeat' first | (with_reducible first | refine q01 ?_ | refine q11 ?_ | refine q12 ?_) | (with_reducible refine DT_regionE [0, 1, 4, 5, 6, 7, 8, 9, 10, 11, 19] ?_; simp -dsimp [hs])
  all_goals try simp -dsimp [hs]
  all_goals try clear hs
  refine DT_loop (ι := { p : Nat × Nat × Bool // p.1 ≤ l.length }) (fun p => ⟨26, [(1, iv (s : Int)), (5, .one (.vec 1 p.1.2.1 0 (selN l s p.1.1).length)), (8, isv l), (9, iv (l.length : Int)), (10, iv (p.1.1 : Int))], [.vec 1 [] 0 true, .vec 1 (ims ((selN l s p.1.1).map encI)) p.1.2.1 p.1.2.2]⟩) (fun p => l.length - p.1.1) ⟨(0, 0, true), by simp⟩ (Weak.of_keep [1,5,8,9,10] (by simp [hz])) ?_
  rintro ⟨⟨i, g, nl⟩, hi⟩
  simp only at hi
  simp only [iv, isv]
  by_cases hlt : i < l.length
  · have hw : IntKind.i64.wrap ((i : Int) + 1) = ((i + 1 : Nat) : Int) := i64w (by omega) (by omega)
    have hi63 : min i 64 = i := by omega
    have hin : ¬ ((i : Int) < 0) := by omega
    have hb64 : IntKind.i64.bits = 64 := rfl
    have hbit := bit_at s i
    have hSl := selN_len l s i
    have hsu : selN l s (i + 1) = selN l s i ++ (if s.testBit i = true then [l[i]] else []) := by
      rw [selN_succ, show l.getD i 0 = l[i] by simp [hlt]]
    generalize hx : l[i] = x at *
    generalize selN l s i = S at *
    cases hb : s.testBit i
    · rw [hb] at hbit hsu
      simp at hbit
      rw [if_neg Bool.false_ne_true, List.append_nil] at hsu
      have hs : True := trivial
      repeat' first | (with_reducible first | refine q01 ?_ | refine q04 ?_ | refine q11 ?_ | refine q12 ?_ | refine q14 ?_) | (with_reducible refine DT_regionE [0, 1, 4, 5, 6, 7, 8, 9, 10, 11, 19] ?_; simp -dsimp [hx, hlt, hw, hin, hi63, hb64, hbit, hs]) | (refine DT_cond rfl (fun h => ?_) (fun h => ?_) <;> (try simp only [nrm] at h) <;> (try exact Bool.noConfusion h))
      all_goals try simp -dsimp [hx, hlt, hw, hin, hi63, hb64, hbit, hs]
      all_goals try clear hs
      all_goals exact At.round ⟨(i + 1, g, nl), by simp only; omega⟩ (by simp only; omega) (Weak.of_keep [1,5,8,9,10] (by simp [hsu]))
    · rw [hb] at hbit hsu
      simp at hbit
      rw [if_pos rfl] at hsu
      have hs : True := trivial
      repeat' first | (with_reducible first | refine q01 ?_ | refine q04 ?_ | refine q11 ?_ | refine q12 ?_ | refine q14 ?_ | refine And.intro (by omega) ?_) | (with_reducible refine DT_regionE [0, 1, 4, 5, 6, 7, 8, 9, 10, 11, 19] ?_; simp -dsimp [hx, hlt, hw, hin, hi63, hb64, hbit, hs]) | (refine DT_cond rfl (fun h => ?_) (fun h => ?_) <;> (try simp only [nrm] at h) <;> (try exact Bool.noConfusion h))
      all_goals try simp -dsimp [hx, hlt, hw, hin, hi63, hb64, hbit, hs]
      all_goals try clear hs
      all_goals exact At.round ⟨(i + 1, g + 1, false), by simp only; omega⟩ (by simp only; omega) (Weak.of_drop [1,5,8,9,10] 2 (by simp) (by simp) (by simp [hsu]))
  · obtain rfl : i = l.length := by omega
    have hs : True := trivial
    repeat' first | (with_reducible first | refine q01 ?_ | refine q03 ?_ | refine q06 ?_ | refine q11 ?_ | refine q16 ?_ | refine q17 ?_) | (with_reducible refine At.fn_ret (by simp -dsimp [hlt, hs]; exact rfl) ?_) | (with_reducible refine DT_regionE [0, 1, 4, 5, 6, 7, 8, 9, 10, 11, 19] ?_; simp -dsimp [hlt, hs]) | (refine DT_cond rfl (fun h => ?_) (fun h => ?_) <;> (try simp only [nrm] at h) <;> (try exact Bool.noConfusion h))
    all_goals try simp -dsimp [hlt, hs]
    all_goals try clear hs
end Go.Proofs
namespace Go.Proofs
open Go Go.Ab
set_option linter.unusedSimpArgs false
variable {G : Nat → Option (List IC)}
def encL (l : List Int) : List IC := [.sl (l.map encI)]
def lsv (L : List (List Int)) : DV := .one (.im (.sl (L.map encL)))
attribute [simp] encL lsv
def trTo (O : List Int) (k : Nat) : List (List Int) := (List.range k).map fun s => selN O s O.length
def truthsL (O : List Int) : List (List Int) := trTo O (2 ^ O.length)
theorem trTo_len (O : List Int) (k : Nat) : (trTo O k).length = k := by simp [trTo]
theorem truthsL_len (O : List Int) : (truthsL O).length = 2 ^ O.length := trTo_len _ _
theorem trTo_succ (O : List Int) (k : Nat) : trTo O (k + 1) = trTo O k ++ [selN O k O.length] := by
  simp [trTo, List.range_succ]
theorem trTo_zero (O : List Int) : trTo O 0 = [] := rfl
set_option maxHeartbeats 4000000 in
theorem rTruths_c (n : Notes) (hs : NSm n) (hok : allOk n) (h5 : (openL n.notes).length ≤ 5) (objs : List DObj) : DCall Tryz.prog G 54 [notesv n] objs (fun rr objs' => rr = lsv (truthsL (isort (openL n.notes))) ∧ objs' = objs) := by
  refine DCall.frame ?_ (by simp) (by simp) objs
  refine DCall_intro Tryz.func54 rfl Tryz.ntmps54 (by simp) rfl ?_
  try simp only [notesv]
  have c1 := open3_c (G := G) n hs hok
  have hn16 := hs.2.1
  have hnu := openI_nums (n := n)
  have hOl : (isort (openL n.notes)).length = (openI n.notes).length := by rw [← hnu, List.length_map]
  have hO5 : (isort (openL n.notes)).length ≤ 5 := by rw [isortL]; exact h5
  have hIlt : ∀ i ∈ openI n.notes, i < n.notes.length := fun i hi => openI_lt hi
  have hJl : (idxv (openI n.notes)).length = (isort (openL n.notes)).length := by rw [hOl]; simp [idxv]
  have hJi : ∀ i (h : i < (isort (openL n.notes)).length), ∃ j, ∃ hj : j < n.notes.length, (idxv (openI n.notes))[i]? = some (j : Int) ∧ (isort (openL n.notes))[i] = n.notes[j].number := fun i h => by
    have hi : i < (openI n.notes).length := by omega
    refine ⟨(openI n.notes)[i], hIlt _ (List.getElem_mem hi), by simp [idxv, hi], ?_⟩
    have h1 : ((openI n.notes).map (numAt n.notes))[i]? = (isort (openL n.notes))[i]? := by rw [hnu]
    rw [List.getElem?_map, List.getElem?_eq_getElem hi, List.getElem?_eq_getElem h] at h1
    simp only [Option.map_some, Option.some.injEq] at h1
    rw [← h1]
    simp [numAt, hIlt _ (List.getElem_mem hi)]
  clear hnu hIlt hOl
  generalize isort (openL n.notes) = O at *
  generalize idxv (openI n.notes) = J at *
  have hPe : (2 : Nat) ^ O.length ≤ 2 ^ 5 := Nat.pow_le_pow_right (by omega) hO5
  have hmin : min O.length 64 = O.length := by omega
  have hb64 : IntKind.i64.bits = 64 := rfl
  have hlnn : ¬ ((O.length : Int) < 0) := by omega
  have hsh : IntKind.i64.wrap ((2 : Int) ^ O.length) = ((2 ^ O.length : Nat) : Int) := by
    rw [show ((2 : Int) ^ O.length) = ((2 ^ O.length : Nat) : Int) by simp]
    exact (fun (P : Nat) (h : P ≤ 2 ^ 5) => (i64w (by omega) (by omega) : IntKind.i64.wrap (P : Int) = (P : Int))) _ hPe
  have hTz : truthsL O = trTo O (2 ^ O.length) := rfl
  simp only [isv] at c1
  have hs : True := trivial
  repeat' first | (with_reducible first | refine q01 ?_ | refine q11 ?_ | refine q12 ?_) | (refine CallE.pure (c1) ?_; try simp -dsimp [hs]) | (with_reducible refine DT_regionE [0, 1, 2, 3, 4, 5, 6, 7, 14, 21, 28] ?_; simp -dsimp [hs])
  all_goals try simp -dsimp [hs]
  all_goals try clear hs
  generalize hP : 2 ^ O.length = P at *
  refine DT_loop (ι := { p : Nat × Nat × Bool // p.1 ≤ P }) (fun p => ⟨46, [(1, .one (.ptr 0 0)), (3, isv J), (4, .one (.vec 2 p.1.2.1 0 p.1.1)), (5, iv (p.1.1 : Int))], [.row ((encNotes n).map .im), .vec 1 [] 0 true, .vec 1 (ims ((trTo O p.1.1).map encL)) p.1.2.1 p.1.2.2]⟩) (fun p => P - p.1.1) ⟨(0, 0, true), by simp⟩ (Weak.of_keep [1,3,4,5] (by simp [trTo_zero])) ?_
  rintro ⟨⟨k, g, nl⟩, hk⟩
  simp only at hk
  simp only [iv, isv]
  have hkl := trTo_len O k
  by_cases hlt : k < P
  · have hw : IntKind.i64.wrap ((k : Int) + 1) = ((k + 1 : Nat) : Int) := i64w (by omega) (by omega)
    have htk := trTo_succ O k
    have hz : selN O k 0 = [] := by simp [selN]
    generalize trTo O k = T at *
    subst hkl
    have hs : True := trivial
    repeat' first | (with_reducible first | refine q01 ?_ | refine q11 ?_ | refine q12 ?_ | refine q14 ?_) | (with_reducible refine DT_regionE [0, 1, 2, 3, 4, 5, 6, 7, 14, 21, 28] ?_; simp -dsimp [hJl, hmin, hb64, hsh, hlnn, hlt, hs]) | (refine DT_cond rfl (fun h => ?_) (fun h => ?_) <;> (try simp only [nrm] at h) <;> (try exact Bool.noConfusion h))
    all_goals try simp -dsimp [hJl, hmin, hb64, hsh, hlnn, hlt, hs]
    all_goals try clear hs
    refine DT_loop (ι := { p : Nat × Nat // p.1 ≤ O.length }) (fun p => ⟨46, [(1, .one (.ptr 0 0)), (3, isv J), (4, .one (.vec 2 g 0 T.length)), (5, iv (T.length : Int)), (6, .one (.vec 3 p.1.2 0 (selN O T.length p.1.1).length)), (7, iv (p.1.1 : Int))], [.row ((encNotes n).map .im), .vec 1 [] 0 true, .vec 1 (ims (T.map encL)) g nl, .vec 1 (ims ((selN O T.length p.1.1).map encI)) p.1.2 false]⟩) (fun p => O.length - p.1.1) ⟨(0, 0), by simp⟩ (Weak.of_keep [1,3,4,5,6,7] (by simp [hz])) ?_
    rintro ⟨⟨i, g2⟩, hi⟩
    simp only at hi
    simp only [iv, isv]
    by_cases hil : i < O.length
    · have hwi : IntKind.i64.wrap ((i : Int) + 1) = ((i + 1 : Nat) : Int) := i64w (by omega) (by omega)
      have hi63 : min i 64 = i := by omega
      have hin : ¬ ((i : Int) < 0) := by omega
      have hbit := bit_at T.length i
      have hSl := selN_len O T.length i
      obtain ⟨j, hj, hJ, hOi⟩ := hJi i hil
      have hJ2 : J[i]'(by omega) = (j : Int) := (List.getElem?_eq_some_iff.1 hJ).2
      have hsu : selN O T.length (i + 1) = selN O T.length i ++ (if T.length.testBit i = true then [n.notes[j].number] else []) := by
        rw [selN_succ, show O.getD i 0 = n.notes[j].number by simp [hil, hOi]]
      have hji : (j : Int) < n.notes.length := by omega
      generalize hx : n.notes[j] = x at *
      generalize selN O T.length i = S at *
      cases hb : T.length.testBit i
      · rw [hb] at hbit hsu
        simp at hbit
        rw [if_neg Bool.false_ne_true, List.append_nil] at hsu
        have hs : True := trivial
        repeat' first | (with_reducible first | refine q01 ?_ | refine q04 ?_ | refine q11 ?_ | refine q12 ?_ | refine q14 ?_) | (with_reducible refine DT_regionE [0, 1, 2, 3, 4, 5, 6, 7, 14, 21, 28] ?_; simp -dsimp [hJl, hil, hwi, hin, hi63, hb64, hbit, hs]) | (refine DT_cond rfl (fun h => ?_) (fun h => ?_) <;> (try simp only [nrm] at h) <;> (try exact Bool.noConfusion h))
        all_goals try simp -dsimp [hJl, hil, hwi, hin, hi63, hb64, hbit, hs]
        all_goals try clear hs
        all_goals exact At.round ⟨(i + 1, g2), by simp only; omega⟩ (by simp only; omega) (Weak.of_keep [1,3,4,5,6,7] (by simp [hsu]))
      · rw [hb] at hbit hsu
        simp at hbit
        rw [if_pos rfl] at hsu
        have hs : True := trivial
        repeat' first | (with_reducible first | refine q01 ?_ | refine q04 ?_ | refine q11 ?_ | refine q12 ?_ | refine q14 ?_ | refine And.intro (by omega) ?_) | (refine DT_regionM (id := 11) (nt := 46) 11 [0, 1, 2, 3, 4, 5, 6, 7, 14, 21, 28] mixed rfl (by kernel_rfl) ?_; simp -dsimp [hJl, hil, hwi, hin, hi63, hb64, hbit, hJ, hJ2, hx, hj, hji, hs]) | (with_reducible refine DT_regionE [0, 1, 2, 3, 4, 5, 6, 7, 14, 21, 28] ?_; simp -dsimp [hJl, hil, hwi, hin, hi63, hb64, hbit, hJ, hJ2, hx, hj, hji, hs]) | (refine DT_cond rfl (fun h => ?_) (fun h => ?_) <;> (try simp only [nrm] at h) <;> (try exact Bool.noConfusion h))
        all_goals try simp -dsimp [hJl, hil, hwi, hin, hi63, hb64, hbit, hJ, hJ2, hx, hj, hji, hs]
        all_goals try clear hs
        all_goals exact At.round ⟨(i + 1, g2 + 1), by simp only; omega⟩ (by simp only; omega) (Weak.of_drop [1,3,4,5,6,7] 4 (by simp) (by simp) (by simp [hsu]))
    · obtain rfl : i = O.length := by omega
      generalize selN O T.length O.length = S at *
      have hs : True := trivial
      repeat' first | (with_reducible first | refine q01 ?_ | refine q03 ?_ | refine q04 ?_ | refine q06 ?_ | refine q11 ?_ | refine q16 ?_ | refine And.intro (by omega) ?_) | (with_reducible refine DT_regionE [0, 1, 2, 3, 4, 5, 6, 7, 14, 21, 28] ?_; simp -dsimp [hJl, hw, hs]) | (refine DT_cond rfl (fun h => ?_) (fun h => ?_) <;> (try simp only [nrm] at h) <;> (try exact Bool.noConfusion h))
      all_goals try simp -dsimp [hJl, hw, hs]
      all_goals try clear hs
      all_goals exact At.round ⟨(T.length + 1, g + 1, false), by simp only; omega⟩ (by simp only; omega) (Weak.of_drop [1,3,4,5] 3 (by simp) (by simp) (by simp [htk]))
  · obtain rfl : k = P := by omega
    rw [hTz]
    generalize trTo O k = T at *
    subst hkl
    have hs : True := trivial
    repeat' first | (with_reducible first | refine q01 ?_ | refine q03 ?_ | refine q06 ?_ | refine q11 ?_ | refine q16 ?_ | refine q17 ?_) | (with_reducible refine At.fn_ret (by simp -dsimp [hJl, hmin, hb64, hsh, hlnn, hs]; exact rfl) ?_) | (with_reducible refine DT_regionE [0, 1, 2, 3, 4, 5, 6, 7, 14, 21, 28] ?_; simp -dsimp [hJl, hmin, hb64, hsh, hlnn, hs]) | (refine DT_cond rfl (fun h => ?_) (fun h => ?_) <;> (try simp only [nrm] at h) <;> (try exact Bool.noConfusion h))
    all_goals try simp -dsimp [hJl, hmin, hb64, hsh, hlnn, hs]
    all_goals try clear hs
    all_goals simp
end Go.Proofs
namespace Go.Ab
open Go
/-- Neighbours that are alike are one. -/
def dedupI : List Int → List Int
  | [] => []
  | [a] => [a]
  | a :: b :: r => if a = b then dedupI (b :: r) else a :: dedupI (b :: r)
theorem dedupI_snoc : ∀ (l : List Int) (u v : Int), dedupI (l ++ [u, v]) = if u = v then dedupI (l ++ [u]) else dedupI (l ++ [u]) ++ [v]
  | [], u, v => by simp only [List.nil_append, dedupI]; split <;> simp [*]
  | [a], u, v => by
    simp only [List.cons_append, List.nil_append, dedupI]
    split <;> split <;> simp [*]
  | a :: b :: r, u, v => by
    have ih := dedupI_snoc (b :: r) u v
    simp only [List.cons_append, dedupI] at ih ⊢
    rw [ih]
    split <;> split <;> simp
theorem dedupI_len : ∀ l : List Int, (dedupI l).length ≤ l.length
  | [] => by simp [dedupI]
  | [a] => by simp [dedupI]
  | a :: b :: r => by
    have := dedupI_len (b :: r)
    simp only [dedupI]; split <;> simp at * <;> omega
theorem dedupI_mem : ∀ (l : List Int) (x : Int), x ∈ dedupI l ↔ x ∈ l
  | [], x => by simp [dedupI]
  | [a], x => by simp [dedupI]
  | a :: b :: r, x => by
    have ih := dedupI_mem (b :: r) x
    simp only [dedupI]
    split
    · rename_i h; subst h; rw [ih]; simp
    · rw [List.mem_cons, ih, List.mem_cons (a := x) (b := a)]
theorem dedupI_lt : ∀ (l : List Int), l.Pairwise (· ≤ ·) → (dedupI l).Pairwise (· < ·)
  | [], _ => by simp [dedupI]
  | [a], _ => by simp [dedupI]
  | a :: b :: r, h => by
    obtain ⟨h1, h2⟩ := List.pairwise_cons.1 h
    have ih := dedupI_lt (b :: r) h2
    simp only [dedupI]
    split
    · exact ih
    · rename_i hne
      refine List.pairwise_cons.2 ⟨fun x hx => ?_, ih⟩
      have hb := h1 b (by simp)
      rcases List.mem_cons.1 ((dedupI_mem _ _).1 hx) with rfl | hx
      · omega
      · have := (List.pairwise_cons.1 h2).1 x hx; omega
/-- Without like neighbours nothing goes. -/
theorem dedupI_id : ∀ (l : List Int), (∀ (i : Nat) (a b : Int), l[i]? = some a → l[i + 1]? = some b → a ≠ b) → dedupI l = l
  | [], _ => rfl
  | [a], _ => rfl
  | a :: b :: r, h => by
    have ih := dedupI_id (b :: r) (fun i x y hx hy => h (i + 1) x y (by simpa using hx) (by simpa using hy))
    rw [dedupI, if_neg (h 0 a b rfl rfl), ih]
theorem take_two {l : List Int} {k : Nat} (h : k + 1 < l.length) : l.take (k + 2) = l.take k ++ [l[k], l[k + 1]] := by
  rw [show k + 2 = k + 1 + 1 from rfl, List.take_succ_eq_append_getElem h, List.take_succ_eq_append_getElem (by omega), List.append_assoc]; rfl
theorem dedup_step {l : List Int} {k : Nat} (h : k + 1 < l.length) : dedupI (l.take (k + 2)) = if l[k] = l[k + 1] then dedupI (l.take (k + 1)) else dedupI (l.take (k + 1)) ++ [l[k + 1]] := by
  rw [take_two h, dedupI_snoc, List.take_succ_eq_append_getElem (by omega)]
theorem set_take {l : List Int} {k : Nat} {v : Int} (h : k < l.length) : (l.set k v).take (k + 1) = l.take k ++ [v] := by
  rw [List.take_succ_eq_append_getElem (by simpa using h)]
  simp [List.take_set_of_le]
end Go.Ab
