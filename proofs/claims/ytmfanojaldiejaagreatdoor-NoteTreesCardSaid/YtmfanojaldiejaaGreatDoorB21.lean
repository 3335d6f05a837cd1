/- Part 21 of the proofs: laws and walks that hold without conditions beyond those that each theorem names. -/
import Derived.Test.YtmfanojaldiejaaGreatDoorB12
import Derived.Test.YtmfanojaldiejaaGreatDoorB15
import Derived.Test.YtmfanojaldiejaaGreatDoorB16
import Derived.Test.YtmfanojaldiejaaGreatDoorB20
set_option linter.all false
set_option linter.deprecated false
namespace Go.Proofs
open Go Go.Ab
def openI (l : List Note) : List Nat := ((List.range l.length).filter (opAt l)).mergeSort fun a b => decide (numAt l a ≤ numAt l b)
theorem openI_to (l : List Note) : OpenTo l l.length (openI l) := by
  refine ⟨List.mergeSort_perm _ _, ?_⟩
  have := List.pairwise_mergeSort (le := fun a b : Nat => decide (numAt l a ≤ numAt l b)) (fun a b c h1 h2 => by simp at *; omega) (fun a b => by simp; omega) ((List.range l.length).filter (opAt l))
  exact this.imp fun h => by simpa using h
theorem openI_eq {n : Notes} (hok : allOk n) {S : List Nat} (h : OpenTo n.notes n.notes.length S) : S = openI n.notes := by
  have h2 := openI_to n.notes
  refine (h.perm.trans h2.perm.symm).eq_of_pairwise (le := fun a b => numAt n.notes a ≤ numAt n.notes b) (fun a b ha hb h3 h4 => ?_) h.srt h2.srt
  have la := (h.lt a ha).1
  have lb := (h2.lt b hb).1
  have e : numAt n.notes a = numAt n.notes b := by omega
  simp only [numAt, List.getElem?_eq_getElem la, List.getElem?_eq_getElem lb, Option.map_some, Option.getD_some] at e
  have hnd := nums_nodup hok
  have la' : a < (n.notes.map (·.number)).length := by simpa using la
  have lb' : b < (n.notes.map (·.number)).length := by simpa using lb
  have e' : (n.notes.map (·.number))[a] = (n.notes.map (·.number))[b] := by simpa using e
  exact (List.getElem_inj hnd).1 e'
theorem openI_nums {n : Notes} : (openI n.notes).map (numAt n.notes) = isort (openL n.notes) := (openI_to n.notes).nums
theorem openI_lt {l : List Note} {i : Nat} (h : i ∈ openI l) : i < l.length := ((openI_to l).lt i h).1
end Go.Proofs
namespace Go.Ab
open Go
def encMB (m : List (Int × Bool)) : List (List Value × List DC) := m.map fun p => (kI p.1, [.im (rB p.2)])
def blook (n : Int) : List (Int × Bool) → Option Bool
  | [] => none
  | p :: r => if p.1 = n then some p.2 else blook n r
def bput (n : Int) (v : Bool) : List (Int × Bool) → List (Int × Bool)
  | [] => [(n, v)]
  | p :: r => if p.1 = n then (n, v) :: r else p :: bput n v r
theorem blook_bput (n k : Int) (v : Bool) : ∀ m, blook k (bput n v m) = if n = k then some v else blook k m
  | [] => by simp [bput, blook]
  | p :: r => by
    have ih := blook_bput n k v r
    simp only [bput]
    split
    · rename_i h
      simp only [blook]
      split
      · rfl
      · rename_i h2
        rw [if_neg (by omega)]
    · rename_i h
      simp only [blook, ih]
      split
      · rename_i h2
        rw [if_neg (by omega)]
      · rfl
@[simp] theorem mget_B (m : List (Int × Bool)) (n : Int) : mget [.int .i64 n] (encMB m) [.im (.raw (.bool false))] = [.im (.raw (.bool ((blook n m).getD false)))] := by
  induction m with
  | nil => rfl
  | cons p r ih =>
    have e : encMB (p :: r) = (kI p.1, [.im (rB p.2)]) :: encMB r := rfl
    rw [e]
    simp only [mget, mfind, blook, beqs_k, decide_eq_true_eq] at ih ⊢
    split
    · rfl
    · exact ih
@[simp] theorem mhas_B (m : List (Int × Bool)) (n : Int) : mhas [.int .i64 n] (encMB m) = (blook n m).isSome := by
  induction m with
  | nil => rfl
  | cons p r ih =>
    have e : encMB (p :: r) = (kI p.1, [.im (rB p.2)]) :: encMB r := rfl
    rw [e]
    simp only [mhas, mfind, blook, beqs_k, decide_eq_true_eq] at ih ⊢
    split
    · rfl
    · exact ih
@[simp] theorem mset_B (m : List (Int × Bool)) (n : Int) (v : Bool) : mset [.int .i64 n] [.im (.raw (.bool v))] (encMB m) = encMB (bput n v m) := by
  induction m with
  | nil => rfl
  | cons p r ih =>
    have e : encMB (p :: r) = (kI p.1, [.im (rB p.2)]) :: encMB r := rfl
    rw [e]
    simp only [mset, bput, beqs_k, decide_eq_true_eq] at ih ⊢
    split
    · rfl
    · rw [ih]; rfl
@[simp] theorem encMB_len (m : List (Int × Bool)) : (encMB m).length = m.length := by simp [encMB]
@[simp] theorem map_fz_B (n : Nat) (objs : List DObj) (m : List (Int × Bool)) : ((encMB m).map fun x => (x.1, x.2.map (fz n objs))) = encMB m := by
  simp [encMB, fz, DC.lt]
@[simp] theorem map_rn_B (e : Nat → Nat) (m : List (Int × Bool)) : ((encMB m).map fun x => (x.1, rnL e x.2)) = encMB m := by
  simp [encMB, rnL, rnC]
section
variable {P : Program} {G : Nat → Option (List IC)}
theorem CallE.embed_ex {ι : Type} {f : FuncId} {args args0 : List DV} {objs objs0 : List DObj} {p : ι → Prop} {o1 : ι → List DObj} {d0 : ι → DV} {Q : DV → List DObj → Prop} {t : Tok Q} (es : List Nat) (h : DCall P G f args0 objs0 (fun d o => ∃ i, p i ∧ d = d0 i ∧ o = o1 i))
    (ha : args0.map (rnV (emb es objs.length)) = args) (hl : es.length = objs0.length) (hnd : es.Nodup) (hes : ∀ x ∈ es, x < objs.length)
    (hobj : ∀ i d, objs0[i]? = some d → objs[emb es objs.length i]? = some (rnO (emb es objs.length) d)) (hq : ∀ i, p i → Q (rnV (emb es objs.length) (d0 i)) (mergeO es objs (o1 i))) : CallE P G f args objs Q t := by
  subst ha
  refine (DCall.embed es h hl hnd hes hobj).mono fun d o ⟨d', o', ⟨i, hp, h1, h2⟩, _, h3, h4⟩ => ?_
  subst h1; subst h2; subst h3; subst h4
  exact hq i hp
end
end Go.Ab
namespace Go.Ab
open Go
@[simp] theorem rn_ims (e : Nat → Nat) (l : List (List IC)) : (ims l).map (rnL e) = ims l := by
  simp only [ims, List.map_map]
  exact List.map_congr_left fun x _ => by simp [rnL_im]
@[simp] theorem emb_nil (n o : Nat) : emb [] n o = n + o := by simp [emb]
attribute [simp] rnV rnC rnL rnVL rnO putO
def clrI (L : List Int) (off len : Nat) : List Int := L.take off ++ (List.replicate len 0 ++ L.drop (off + len))
theorem clrI_len {L : List Int} {off len : Nat} (h : off + len ≤ L.length) : (clrI L off len).length = L.length := by simp [clrI]; omega
@[simp] theorem dclearE_I (L : List Int) (off len : Nat) : dclearE (ims (L.map encI)) off len (.im (.raw (.int .i64 0))) = ims ((clrI L off len).map encI) := by
  simp only [dclearE, clrI, ims, List.map_append, List.map_take, List.map_drop, List.map_replicate]
  rfl
theorem QCall.thaw {P : Program} {G : Nat → Option (List IC)} {f : FuncId} {args args0 : List DV} {d0 : DV} {objs : List DObj} {K : DV → Prop} {t : Tok K} (h : ∀ objs, DCall P G f args0 objs (fun d o => d = d0 ∧ o = objs)) (ha : args0 = args.map (fzV 0 objs)) (hd : FlV d0) (hk : K d0) : QCall P G f args objs K t :=
  ⟨d0, DCall.thaw h ha hd, hk⟩
end Go.Ab
namespace Go.Ab
open Go
@[simp] theorem ims_set1 (X : List (List IC)) (k : Nat) (c : IC) : (ims X).set k [DC.im c] = ims (X.set k [c]) := by
  simp only [ims, List.map_set, List.map_cons, List.map_nil]
@[simp] theorem ims_get1 (X : List (List IC)) (k : Nat) (h : k < (ims X).length) : (ims X)[k] = (X[k]'(by simpa [ims_length] using h)).map .im := by simp [ims]
theorem map_nat_set (S : List Nat) (i v : Nat) : (S.map fun j => ((j : Nat) : Int)).set i (v : Int) = (S.set i v).map fun j => ((j : Nat) : Int) := by
  rw [List.map_set]
theorem ins_swap {S : List Nat} {q k : Nat} (hq : q < S.length) : ((S.take (q + 1) ++ k :: S.drop (q + 1)).set (q + 1) S[q]).set q k = S.take q ++ k :: S.drop q := by
  have h1 : S.take (q + 1) = S.take q ++ [S[q]] := List.take_succ_eq_append_getElem hq
  have hl : (S.take q).length = q := by simp; omega
  rw [List.drop_eq_getElem_cons hq, h1, List.append_assoc, List.set_append_right _ _ (by omega), List.set_append_right _ _ (by omega)]
  congr 1
  rw [hl, show q + 1 - q = 1 by omega, show q - q = 0 by omega]
  rfl
theorem ins_at {S : List Nat} {q k : Nat} (hq : q ≤ S.length) : (S.take q ++ k :: S.drop q)[q]? = some k := by
  have hl : (S.take q).length = q := by simp; omega
  rw [List.getElem?_append_right (by omega), hl, Nat.sub_self]; rfl
theorem ins_before {S : List Nat} {q k : Nat} (hq : q < S.length) : (S.take (q + 1) ++ k :: S.drop (q + 1))[q]? = some S[q] := by
  rw [List.getElem?_append_left (by simp; omega), List.getElem?_take_of_lt (by omega), List.getElem?_eq_getElem hq]
end Go.Ab
namespace Go.Proofs
open Go Go.Ab
variable {G : Nat → Option (List IC)}
def idxv (S : List Nat) : List Int := S.map fun j => ((j : Nat) : Int)
set_option maxHeartbeats 4000000 in
theorem open3_c (n : Notes) (hs : NSm n) (hok : allOk n) (objs : List DObj) : DCall Tryz.prog G 23 [notesv n] objs (fun rr objs' => rr = isv (idxv (openI n.notes)) ∧ objs' = objs) := by
  refine DCall.frame ?_ (by simp) (by simp) objs
  refine DCall_intro Tryz.func23 rfl Tryz.ntmps23 (by simp) rfl ?_
  try simp only [notesv]
  have hn16 := hs.2.1
  have hs : True := trivial
  repeat' first | (with_reducible first | refine q01 ?_ | refine q11 ?_ | refine q12 ?_) | (with_reducible refine DT_regionE [0,1,2,3,4,5,6,11,20,51] ?_; simp -dsimp [hs])
  all_goals try simp -dsimp [hs]
  all_goals try clear hs
  refine DT_loop (ι := { p : Nat × Nat × Bool × List Nat // p.1 ≤ n.notes.length ∧ OpenTo n.notes p.1 p.2.2.2 }) (fun p => ⟨72, [(1, .one (.ptr 0 0)), (3, .one (.vec 2 p.1.2.1 0 (idxv p.1.2.2.2).length)), (4, iv (p.1.1 : Int))], [.row ((encNotes n).map .im), .vec 1 [] 0 true, .vec 1 (ims ((idxv p.1.2.2.2).map encI)) p.1.2.1 p.1.2.2.1]⟩) (fun p => n.notes.length - p.1.1) ⟨(0, 0, true, []), by simp, OpenTo.nil _⟩ (Weak.of_keep [1,3,4] (by simp [idxv])) ?_
  rintro ⟨⟨i, g, nl, S⟩, hi, hS⟩
  simp only at hi hS
  simp only [iv]
  have hSl := hS.len
  by_cases hlt : i < n.notes.length
  · have hw : IntKind.i64.wrap ((i : Int) + 1) = ((i + 1 : Nat) : Int) := i64w (by omega) (by omega)
    have hop : opAt n.notes i = decide (n.notes[i].signed = 1) := by simp [opAt, hlt]
    have hnu : numAt n.notes i = n.notes[i].number := by simp [numAt, hlt]
    generalize hx : n.notes[i] = x at *
    by_cases h1 : x.signed = 1
    · have hLl : (idxv S).length = S.length := by simp [idxv]
      have hw2 : IntKind.i64.wrap ((idxv S).length : Int) = ((idxv S).length : Int) := i64w (by omega) (by omega)
      rw [decide_eq_true h1] at hop
      have hs : True := trivial
      repeat' first | (with_reducible first | refine q01 ?_ | refine q11 ?_ | refine q12 ?_ | refine q14 ?_ | refine And.intro (by omega) ?_) | (with_reducible refine DT_regionE [0,1,2,3,4,5,6,11,20,51] ?_; simp -dsimp [hx, hlt, h1, hw, hw2, hs]) | (refine DT_cond rfl (fun h => ?_) (fun h => ?_) <;> (try simp only [nrm] at h) <;> (try exact Bool.noConfusion h))
      all_goals try simp -dsimp [hx, hlt, h1, hw, hw2, hs]
      all_goals try clear hs
      refine DT_loop (ι := { q : Nat // q ≤ S.length ∧ ∀ j ∈ S.drop q, numAt n.notes i ≤ numAt n.notes j }) (fun p => ⟨72, [(1, .one (.ptr 0 0)), (3, .one (.vec 2 (g + 1) 0 (S.length + 1))), (4, iv (i : Int)), (5, iv (p.1 : Int))], [.row ((encNotes n).map .im), .vec 1 [] 0 true, .vec 1 (ims ((idxv (S.take p.1 ++ i :: S.drop p.1)).map encI)) (g + 1) false]⟩) (fun p => p.1) ⟨S.length, by simp⟩ (Weak.of_drop [1,3,4,5] 3 (by simp) (by simp) (by simp [hLl]; simp [idxv])) ?_
      rintro ⟨q, hq, hge⟩
      simp only [iv]
      have hLq := ins_at (k := i) hq
      have hTl : (idxv (S.take q ++ i :: S.drop q)).length = S.length + 1 := by simp [idxv]; omega
      have hLi : (idxv (S.take q ++ i :: S.drop q))[q]? = some (i : Int) := by rw [idxv, List.getElem?_map, hLq]; rfl
      by_cases h0 : q = 0
      · subst h0
        have hput := hS.put hop 0 (by simp) hge
        have hs : True := trivial
        repeat' first | (with_reducible first | refine q01 ?_ | refine q03 ?_ | refine q04 ?_ | refine q06 ?_ | refine q11 ?_ | refine q16 ?_) | (refine DT_regionM (id := 8) (nt := 72) 24 [0,1,2,3,4,5,6,11,20,51] mixed rfl (by kernel_rfl) ?_; simp -dsimp [hw, hx, hlt, hs]) | (with_reducible refine DT_regionE [0,1,2,3,4,5,6,11,20,51] ?_; simp -dsimp [hw, hx, hlt, hs]) | (refine DT_cond rfl (fun h => ?_) (fun h => ?_) <;> (try simp only [nrm] at h) <;> (try exact Bool.noConfusion h))
        all_goals try simp -dsimp [hw, hx, hlt, hs]
        all_goals try clear hs
        exact At.round ⟨(i + 1, g + 1, false, S.take 0 ++ i :: S.drop 0), by omega, hput⟩ (by simp; omega) (Weak.of_keep [1,3,4] (by simp [idxv]))
      · obtain ⟨r, rfl⟩ : ∃ r, q = r + 1 := ⟨q - 1, by omega⟩
        have hr : r < S.length := by omega
        have hb := ins_before (k := i) hr
        have hLr : (idxv (S.take (r + 1) ++ i :: S.drop (r + 1)))[r]? = some (S[r] : Int) := by rw [idxv, List.getElem?_map, hb]; rfl
        have hsw := ins_swap (k := i) hr
        have hLs : ((idxv (S.take (r + 1) ++ i :: S.drop (r + 1))).set (r + 1) (S[r] : Int)).set r (i : Int) = idxv (S.take r ++ i :: S.drop r) := by
          rw [idxv, map_nat_set, map_nat_set, hsw]; rfl
        have hj := (hS.lt S[r] (List.getElem_mem hr)).1
        have hjl : S[r] < n.notes.length := by omega
        have hju : numAt n.notes S[r] = n.notes[S[r]].number := by simp [numAt, hjl]
        have hdr := List.drop_eq_getElem_cons hr
        have hfirst := fun (v : Int) h => hS.first hr (v := v) h
        have hput := fun h => hS.put hop (r + 1) h hge
        have hq1 : ((r + 1 : Nat) : Int) - 1 = (r : Int) := by omega
        have hwr : IntKind.i64.wrap (r : Int) = (r : Int) := i64w (by omega) (by omega)
        have hr1 : r < S.length + 1 := by omega
        have hp0 : (0 : Int) ≤ (r : Int) + 1 := by omega
        have hp1 : (0 : Int) < (r : Int) + 1 := by omega
        have hwr1 : IntKind.i64.wrap ((r : Int) + 1 - 1) = (r : Int) := i64w (by omega) (by omega) |>.trans (by omega)
        generalize S[r] = j at *
        generalize hy : n.notes[j] = y at *
        generalize hL : idxv (S.take (r + 1) ++ i :: S.drop (r + 1)) = L at *
        obtain ⟨_, hLre⟩ := List.getElem?_eq_some_iff.1 hLr
        obtain ⟨_, hLie⟩ := List.getElem?_eq_some_iff.1 hLi
        have hs : True := trivial
        repeat' first | (with_reducible first | refine q01 ?_ | refine q03 ?_ | refine q04 ?_ | refine q06 ?_ | refine q11 ?_ | refine q12 ?_ | refine q14 ?_ | refine q16 ?_) | (refine DT_regionM (id := 8) (nt := 72) 24 [0,1,2,3,4,5,6,11,20,51] mixed rfl (by kernel_rfl) ?_; simp -dsimp [hw, hx, hlt, hy, hjl, hLie, hLre, hwr, hTl, hr, hr1, hp0, hp1, hwr1, hs]) | (with_reducible refine DT_regionE [0,1,2,3,4,5,6,11,20,51] ?_; simp -dsimp [hw, hx, hlt, hy, hjl, hLie, hLre, hwr, hTl, hr, hr1, hp0, hp1, hwr1, hs]) | (refine DT_cond rfl (fun h => ?_) (fun h => ?_) <;> (try simp only [nrm] at h) <;> (try exact Bool.noConfusion h))
        all_goals try simp -dsimp [hw, hx, hlt, hy, hjl, hLie, hLre, hwr, hTl, hr, hr1, hp0, hp1, hwr1, hs]
        all_goals try clear hs
        · exact At.round ⟨r, by omega, fun z hz => by
            rw [hdr] at hz
            rcases List.mem_cons.1 hz with rfl | hz
            · omega
            · exact hge z hz⟩ (by simp) (Weak.of_keep [1,3,4,5] (by simp [← hLs]))
        · exact At.round ⟨(i + 1, g + 1, false, S.take (r + 1) ++ i :: S.drop (r + 1)), by omega, hput (hfirst _ (by omega))⟩ (by simp; omega) (Weak.of_keep [1,3,4] (by simp [hL, hTl]))
    · rw [decide_eq_false h1] at hop
      have hs : True := trivial
      repeat' first | (with_reducible first | refine q01 ?_ | refine q03 ?_ | refine q06 ?_ | refine q11 ?_ | refine q12 ?_ | refine q14 ?_ | refine q16 ?_) | (with_reducible refine DT_regionE [0,1,2,3,4,5,6,11,20,51] ?_; simp -dsimp [hx, hlt, h1, hw, hs]) | (refine DT_cond rfl (fun h => ?_) (fun h => ?_) <;> (try simp only [nrm] at h) <;> (try exact Bool.noConfusion h))
      all_goals try simp -dsimp [hx, hlt, h1, hw, hs]
      all_goals try clear hs
      exact At.round ⟨(i + 1, g, nl, S), by omega, hS.skip hop⟩ (by simp; omega) (Weak.of_keep [1,3,4] (by simp))
  · obtain rfl : i = n.notes.length := by omega
    obtain rfl := openI_eq hok hS
    have hs : True := trivial
    repeat' first | (with_reducible first | refine q01 ?_ | refine q03 ?_ | refine q06 ?_ | refine q11 ?_ | refine q16 ?_ | refine q17 ?_) | (with_reducible refine At.fn_ret (by simp -dsimp [hlt, hs]; exact rfl) ?_) | (with_reducible refine DT_regionE [0,1,2,3,4,5,6,11,20,51] ?_; simp -dsimp [hlt, hs]) | (refine DT_cond rfl (fun h => ?_) (fun h => ?_) <;> (try simp only [nrm] at h) <;> (try exact Bool.noConfusion h))
    all_goals try simp -dsimp [hlt, hs]
    all_goals try clear hs
    all_goals simp [idxv]
end Go.Proofs
namespace Go.Ab
open Go
def findL (p : List Int → Bool) : List Int → Nat → List Int → Option (List Int)
  | [], 0, l => if p l then some l else none
  | [], _ + 1, _ => none
  | _ :: _, 0, l => if p l then some l else none
  | a :: r, k + 1, l => match findL p r k (l ++ [a]) with
    | some x => some x
    | none => findL p r (k + 1) l
theorem findL_zero (p : List Int → Bool) (A l : List Int) : findL p A 0 l = if p l then some l else none := by cases A <;> rfl
def sizesL (p : List Int → Bool) (A : List Int) : Nat → Option (List Int)
  | 0 => none
  | k + 1 => match sizesL p A k with
    | some x => some x
    | none => findL p A k []
end Go.Ab
namespace Go.Ab
open Go
theorem isort_strict {l : List Int} (h : l.Nodup) : (isort l).Pairwise (· < ·) := by
  have h1 : (isort l).Nodup := (List.mergeSort_perm l _).nodup_iff.2 h
  have h2 := List.pairwise_mergeSort (le := fun x y : Int => decide (x ≤ y)) (fun a b c h1 h2 => by simp at *; omega) (fun a b => by simp; omega) l
  rw [List.nodup_iff_pairwise_ne] at h1
  refine (h1.and h2).imp ?_
  rintro a b ⟨h3, h4⟩
  simp at h4; omega
theorem strict_sub : ∀ (X Y : List Int), X.Pairwise (· < ·) → Y.Pairwise (· < ·) → (∀ x ∈ X, x ∈ Y) → X.Sublist Y
  | [], Y, _, _, _ => by simp
  | a :: x, [], _, _, h => by have := h a (by simp); simp at this
  | a :: x, b :: y, hX, hY, h => by
    obtain ⟨h1, h2⟩ := List.pairwise_cons.1 hX
    obtain ⟨h3, h4⟩ := List.pairwise_cons.1 hY
    by_cases e : a = b
    · subst e
      refine List.Sublist.cons_cons a (strict_sub x y h2 h4 fun z hz => ?_)
      rcases List.mem_cons.1 (h z (by simp [hz])) with rfl | hm
      · have := h1 z hz; omega
      · exact hm
    · refine List.Sublist.cons b (strict_sub (a :: x) y hX h4 fun z hz => ?_)
      have hab : b < a := by
        rcases List.mem_cons.1 (h a (by simp)) with rfl | hm
        · exact absurd rfl e
        · exact h3 a hm
      rcases List.mem_cons.1 (h z hz) with rfl | hm
      · rcases List.mem_cons.1 hz with rfl | hz
        · omega
        · have := h1 z hz; omega
      · exact hm
theorem strict_eq {X Y : List Int} (hX : X.Pairwise (· < ·)) (hY : Y.Pairwise (· < ·)) (h : ∀ x, x ∈ X ↔ x ∈ Y) : X = Y :=
  (strict_sub X Y hX hY fun x hx => (h x).1 hx).eq_of_length_le (strict_sub Y X hY hX fun x hx => (h x).2 hx).length_le
theorem mask_ex (f : Nat → Bool) : ∀ n : Nat, ∃ s : Nat, s < 2 ^ n ∧ ∀ i < n, s.testBit i = f i
  | 0 => ⟨0, by simp, fun i hi => by omega⟩
  | n + 1 => by
    obtain ⟨s, h1, h2⟩ := mask_ex f n
    cases hf : f n
    · refine ⟨s, by rw [Nat.pow_succ]; omega, fun i hi => ?_⟩
      by_cases e : i = n
      · subst e; rw [hf]; exact Nat.testBit_lt_two_pow h1
      · exact h2 i (by omega)
    · refine ⟨2 ^ n + s, by rw [Nat.pow_succ]; omega, fun i hi => ?_⟩
      by_cases e : i = n
      · subst e; rw [hf, Nat.testBit_two_pow_add_eq, Nat.testBit_lt_two_pow h1]; rfl
      · rw [Nat.testBit_two_pow_add_gt (by omega)]; exact h2 i (by omega)
def selN (N : List Int) (s : Nat) (k : Nat) : List Int := ((List.range k).filter fun i => s.testBit i).map fun i => N.getD i 0
theorem selN_succ (N : List Int) (s k : Nat) : selN N s (k + 1) = selN N s k ++ (if s.testBit k = true then [N.getD k 0] else []) := by
  unfold selN
  rw [List.range_succ, List.filter_append, List.map_append]
  congr 1
  by_cases h : s.testBit k = true <;> simp [h]
theorem selN_mem {N : List Int} {s k : Nat} (hk : k ≤ N.length) {x : Int} : x ∈ selN N s k ↔ ∃ i, i < k ∧ s.testBit i = true ∧ N[i]? = some x := by
  simp only [selN, List.mem_map, List.mem_filter, List.mem_range]
  constructor
  · rintro ⟨i, ⟨h1, h2⟩, rfl⟩
    have hi : i < N.length := by omega
    exact ⟨i, h1, h2, by simp [hi]⟩
  · rintro ⟨i, h1, h2, h3⟩
    exact ⟨i, ⟨h1, h2⟩, by simp [h3]⟩
end Go.Ab
namespace Go.Ab
open Go
theorem bit_at (s i : Nat) : IntKind.i64.wrap ((BitVec.ofInt 64 ((s : Int).fdiv (2 ^ i)) &&& BitVec.ofInt 64 1).toNat : Int) = if s.testBit i = true then 1 else 0 := by
  have e1 : (s : Int).fdiv (2 ^ i) = ((s / 2 ^ i : Nat) : Int) := by
    rw [Int.fdiv_eq_ediv_of_nonneg _ (by exact Int.pow_nonneg (by omega))]
    simp
  have e2 : (BitVec.ofInt 64 ((s / 2 ^ i : Nat) : Int) &&& BitVec.ofInt 64 1).toNat = (s / 2 ^ i) % 2 := by
    have h1 : (BitVec.ofInt 64 1) = 1#64 := by decide
    rw [h1, BitVec.ofInt_natCast, BitVec.toNat_and, BitVec.toNat_ofNat, BitVec.toNat_ofNat]
    rw [show (1 % 2 ^ 64 : Nat) = 1 by decide, Nat.and_one_is_mod]
    omega
  rw [e1, e2, Nat.testBit_eq_decide_div_mod_eq]
  rcases Nat.mod_two_eq_zero_or_one (s / 2 ^ i) with h | h
  · rw [h]; simp; decide
  · rw [h]; simp; decide
end Go.Ab
namespace Go.Ab
open Go
theorem findL_short {p : List Int → Bool} : ∀ (A : List Int) (k : Nat) (l : List Int), A.length < k → findL p A k l = none
  | A, 0, l, h => by omega
  | [], k + 1, l, _ => rfl
  | a :: r, k + 1, l, h => by
    simp only [List.length_cons] at h
    simp only [findL, findL_short r k (l ++ [a]) (by omega), findL_short r (k + 1) l (by omega)]
theorem findL_len {p : List Int → Bool} : ∀ (A : List Int) (k : Nat) (l x : List Int), findL p A k l = some x → x.length = l.length + k
  | A, 0, l, x, h => by
    rw [findL_zero] at h
    split at h
    · cases h; rfl
    · cases h
  | [], k + 1, l, x, h => by cases h
  | a :: r, k + 1, l, x, h => by
    simp only [findL] at h
    split at h
    · rename_i y h1
      cases h
      have := findL_len r k (l ++ [a]) _ h1
      simp at this; omega
    · exact findL_len r (k + 1) l x h
theorem findL_at {p : List Int → Bool} {A : List Int} {i k : Nat} {l : List Int} (h : i < A.length) : findL p (A.drop i) (k + 1) l = match findL p (A.drop (i + 1)) k (l ++ [A[i]]) with
    | some x => some x
    | none => findL p (A.drop (i + 1)) (k + 1) l := by
  rw [List.drop_eq_getElem_cons h]; rfl
theorem sizesL_next {p : List Int → Bool} {A : List Int} {k : Nat} (h1 : sizesL p A k = none) : sizesL p A (k + 1) = findL p A k [] := by
  simp only [sizesL, h1]
theorem sizesL_mono {p : List Int → Bool} {A x : List Int} {k : Nat} (h : sizesL p A k = some x) : ∀ d, sizesL p A (k + d) = some x
  | 0 => h
  | d + 1 => by
    rw [← Nat.add_assoc]
    simp only [sizesL, sizesL_mono h d]
theorem sizesL_hit {p : List Int → Bool} {A x : List Int} {k m : Nat} (h1 : sizesL p A k = none) (h2 : findL p A k [] = some x) (h : k < m) : sizesL p A m = some x := by
  have := sizesL_mono (sizesL_next h1 ▸ h2 : sizesL p A (k + 1) = some x) (m - (k + 1))
  rwa [show k + 1 + (m - (k + 1)) = m by omega] at this
def resV : Option (List Int) → DV
  | some x => isv x
  | none => .one (.im (.raw (.slice none 0 0)))
end Go.Ab
namespace Go.Proofs
open Go Go.Ab
variable {G : Nat → Option (List IC)}
theorem isortL (l : List Int) : (isort l).length = l.length := (List.mergeSort_perm l _).length_eq
theorem selN_len (N : List Int) (s k : Nat) : (selN N s k).length ≤ k := by
  induction k with
  | zero => simp [selN]
  | succ k ih =>
    rw [selN_succ]
    split <;> simp <;> omega
theorem some_c (l : List Int) (s : Nat) (hl : l.length ≤ 60) (objs : List DObj) : DCall Tryz.prog G 75 [isv l, iv (s : Int)] objs (fun rr objs' => rr = isv (selN l s l.length) ∧ objs' = objs) := by
  refine DCall.frame ?_ (by simp) (by simp) objs
  refine DCall_intro Tryz.func75 rfl Tryz.ntmps75 (by simp) rfl ?_
  try simp only [isv, iv]
  have hs0 : (0 : Int) ≤ (s : Int) := by omega
  have hz : selN l s 0 = [] := by simp [selN]
  have hs : True := trivial
  repeat' first | (with_reducible first | refine q01 ?_ | refine q11 ?_ | refine q12 ?_) | (with_reducible refine DT_regionE [0,1,4,5,6,7,8,9,10,11,19] ?_; simp -dsimp [hs])
  all_goals try simp -dsimp [hs]
  all_goals try clear hs
  refine DT_loop (ι := { p : Nat × Nat × Bool // p.1 ≤ l.length }) (fun p => ⟨26, [(1, iv (s : Int)), (5, .one (.vec 1 p.1.2.1 0 (selN l s p.1.1).length)), (8, isv l), (9, iv (l.length : Int)), (10, iv (p.1.1 : Int))], [.vec 1 [] 0 true, .vec 1 (ims ((selN l s p.1.1).map encI)) p.1.2.1 p.1.2.2]⟩) (fun p => l.length - p.1.1) ⟨(0, 0, true), by simp⟩ (Weak.of_keep [1,5,8,9,10] (by simp [hz])) ?_
  rintro ⟨⟨i, g, nl⟩, hi⟩
  simp only at hi
  simp only [iv, isv]
  by_cases hlt : i < l.length
  · have hw : IntKind.i64.wrap ((i : Int) + 1) = ((i + 1 : Nat) : Int) := i64w (by omega) (by omega)
    have hi63 : min i 64 = i := by omega
    have hin : ¬ ((i : Int) < 0) := by omega
    have hb64 : IntKind.i64.bits = 64 := rfl
    have hbit := bit_at s i
    have hSl := selN_len l s i
    have hsu : selN l s (i + 1) = selN l s i ++ (if s.testBit i = true then [l[i]] else []) := by
      rw [selN_succ, show l.getD i 0 = l[i] by simp [hlt]]
    generalize hx : l[i] = x at *
    generalize selN l s i = S at *
    cases hb : s.testBit i
    · rw [hb] at hbit hsu
      simp at hbit
      rw [if_neg Bool.false_ne_true, List.append_nil] at hsu
      have hs : True := trivial
      repeat' first | (with_reducible first | refine q01 ?_ | refine q04 ?_ | refine q11 ?_ | refine q12 ?_ | refine q14 ?_) | (with_reducible refine DT_regionE [0,1,4,5,6,7,8,9,10,11,19] ?_; simp -dsimp [hx, hlt, hw, hin, hi63, hb64, hbit, hs]) | (refine DT_cond rfl (fun h => ?_) (fun h => ?_) <;> (try simp only [nrm] at h) <;> (try exact Bool.noConfusion h))
      all_goals try simp -dsimp [hx, hlt, hw, hin, hi63, hb64, hbit, hs]
      all_goals try clear hs
      all_goals exact At.round ⟨(i + 1, g, nl), by simp only; omega⟩ (by simp only; omega) (Weak.of_keep [1,5,8,9,10] (by simp [hsu]))
    · rw [hb] at hbit hsu
      simp at hbit
      rw [if_pos rfl] at hsu
      have hs : True := trivial
      repeat' first | (with_reducible first | refine q01 ?_ | refine q04 ?_ | refine q11 ?_ | refine q12 ?_ | refine q14 ?_ | refine And.intro (by omega) ?_) | (with_reducible refine DT_regionE [0,1,4,5,6,7,8,9,10,11,19] ?_; simp -dsimp [hx, hlt, hw, hin, hi63, hb64, hbit, hs]) | (refine DT_cond rfl (fun h => ?_) (fun h => ?_) <;> (try simp only [nrm] at h) <;> (try exact Bool.noConfusion h))
      all_goals try simp -dsimp [hx, hlt, hw, hin, hi63, hb64, hbit, hs]
      all_goals try clear hs
      all_goals exact At.round ⟨(i + 1, g + 1, false), by simp only; omega⟩ (by simp only; omega) (Weak.of_drop [1,5,8,9,10] 2 (by simp) (by simp) (by simp [hsu]))
  · obtain rfl : i = l.length := by omega
    have hs : True := trivial
    repeat' first | (with_reducible first | refine q01 ?_ | refine q03 ?_ | refine q06 ?_ | refine q11 ?_ | refine q16 ?_ | refine q17 ?_) | (with_reducible refine At.fn_ret (by simp -dsimp [hlt, hs]; exact rfl) ?_) | (with_reducible refine DT_regionE [0,1,4,5,6,7,8,9,10,11,19] ?_; simp -dsimp [hlt, hs]) | (refine DT_cond rfl (fun h => ?_) (fun h => ?_) <;> (try simp only [nrm] at h) <;> (try exact Bool.noConfusion h))
    all_goals try simp -dsimp [hlt, hs]
    all_goals try clear hs
end Go.Proofs
namespace Go.Proofs
open Go Go.Ab
variable {G : Nat → Option (List IC)}
def encL (l : List Int) : List IC := [.sl (l.map encI)]
def lsv (L : List (List Int)) : DV := .one (.im (.sl (L.map encL)))
attribute [simp] encL lsv
def trTo (O : List Int) (k : Nat) : List (List Int) := (List.range k).map fun s => selN O s O.length
def truthsL (O : List Int) : List (List Int) := trTo O (2 ^ O.length)
theorem trTo_len (O : List Int) (k : Nat) : (trTo O k).length = k := by simp [trTo]
theorem truthsL_len (O : List Int) : (truthsL O).length = 2 ^ O.length := trTo_len _ _
theorem trTo_succ (O : List Int) (k : Nat) : trTo O (k + 1) = trTo O k ++ [selN O k O.length] := by
  simp [trTo, List.range_succ]
theorem trTo_zero (O : List Int) : trTo O 0 = [] := rfl
set_option maxHeartbeats 4000000 in
theorem rTruths_c (n : Notes) (hs : NSm n) (hok : allOk n) (h5 : (openL n.notes).length ≤ 5) (objs : List DObj) : DCall Tryz.prog G 20 [notesv n] objs (fun rr objs' => rr = lsv (truthsL (isort (openL n.notes))) ∧ objs' = objs) := by
  refine DCall.frame ?_ (by simp) (by simp) objs
  refine DCall_intro Tryz.func20 rfl Tryz.ntmps20 (by simp) rfl ?_
  try simp only [notesv]
  have c1 := open3_c (G := G) n hs hok
  have hn16 := hs.2.1
  have hnu := openI_nums (n := n)
  have hOl : (isort (openL n.notes)).length = (openI n.notes).length := by rw [← hnu, List.length_map]
  have hO5 : (isort (openL n.notes)).length ≤ 5 := by rw [isortL]; exact h5
  have hIlt : ∀ i ∈ openI n.notes, i < n.notes.length := fun i hi => openI_lt hi
  have hJl : (idxv (openI n.notes)).length = (isort (openL n.notes)).length := by rw [hOl]; simp [idxv]
  have hJi : ∀ i (h : i < (isort (openL n.notes)).length), ∃ j, ∃ hj : j < n.notes.length, (idxv (openI n.notes))[i]? = some (j : Int) ∧ (isort (openL n.notes))[i] = n.notes[j].number := fun i h => by
    have hi : i < (openI n.notes).length := by omega
    refine ⟨(openI n.notes)[i], hIlt _ (List.getElem_mem hi), by simp [idxv, hi], ?_⟩
    have h1 : ((openI n.notes).map (numAt n.notes))[i]? = (isort (openL n.notes))[i]? := by rw [hnu]
    rw [List.getElem?_map, List.getElem?_eq_getElem hi, List.getElem?_eq_getElem h] at h1
    simp only [Option.map_some, Option.some.injEq] at h1
    rw [← h1]
    simp [numAt, hIlt _ (List.getElem_mem hi)]
  clear hnu hIlt hOl
  generalize isort (openL n.notes) = O at *
  generalize idxv (openI n.notes) = J at *
  have hPe : (2 : Nat) ^ O.length ≤ 2 ^ 5 := Nat.pow_le_pow_right (by omega) hO5
  have hmin : min O.length 64 = O.length := by omega
  have hb64 : IntKind.i64.bits = 64 := rfl
  have hlnn : ¬ ((O.length : Int) < 0) := by omega
  have hsh : IntKind.i64.wrap ((2 : Int) ^ O.length) = ((2 ^ O.length : Nat) : Int) := by
    rw [show ((2 : Int) ^ O.length) = ((2 ^ O.length : Nat) : Int) by simp]
    exact (fun (P : Nat) (h : P ≤ 2 ^ 5) => (i64w (by omega) (by omega) : IntKind.i64.wrap (P : Int) = (P : Int))) _ hPe
  have hTz : truthsL O = trTo O (2 ^ O.length) := rfl
  simp only [isv] at c1
  have hs : True := trivial
  repeat' first | (with_reducible first | refine q01 ?_ | refine q11 ?_ | refine q12 ?_) | (refine CallE.pure (c1) ?_; try simp -dsimp [hs]) | (with_reducible refine DT_regionE [0,1,2,3,4,5,6,7,14,21,28] ?_; simp -dsimp [hs])
  all_goals try simp -dsimp [hs]
  all_goals try clear hs
  generalize hP : 2 ^ O.length = P at *
  refine DT_loop (ι := { p : Nat × Nat × Bool // p.1 ≤ P }) (fun p => ⟨46, [(1, .one (.ptr 0 0)), (3, isv J), (4, .one (.vec 2 p.1.2.1 0 p.1.1)), (5, iv (p.1.1 : Int))], [.row ((encNotes n).map .im), .vec 1 [] 0 true, .vec 1 (ims ((trTo O p.1.1).map encL)) p.1.2.1 p.1.2.2]⟩) (fun p => P - p.1.1) ⟨(0, 0, true), by simp⟩ (Weak.of_keep [1,3,4,5] (by simp [trTo_zero])) ?_
  rintro ⟨⟨k, g, nl⟩, hk⟩
  simp only at hk
  simp only [iv, isv]
  have hkl := trTo_len O k
  by_cases hlt : k < P
  · have hw : IntKind.i64.wrap ((k : Int) + 1) = ((k + 1 : Nat) : Int) := i64w (by omega) (by omega)
    have htk := trTo_succ O k
    have hz : selN O k 0 = [] := by simp [selN]
    generalize trTo O k = T at *
    subst hkl
    have hs : True := trivial
    repeat' first | (with_reducible first | refine q01 ?_ | refine q11 ?_ | refine q12 ?_ | refine q14 ?_) | (with_reducible refine DT_regionE [0,1,2,3,4,5,6,7,14,21,28] ?_; simp -dsimp [hJl, hmin, hb64, hsh, hlnn, hlt, hs]) | (refine DT_cond rfl (fun h => ?_) (fun h => ?_) <;> (try simp only [nrm] at h) <;> (try exact Bool.noConfusion h))
    all_goals try simp -dsimp [hJl, hmin, hb64, hsh, hlnn, hlt, hs]
    all_goals try clear hs
    refine DT_loop (ι := { p : Nat × Nat // p.1 ≤ O.length }) (fun p => ⟨46, [(1, .one (.ptr 0 0)), (3, isv J), (4, .one (.vec 2 g 0 T.length)), (5, iv (T.length : Int)), (6, .one (.vec 3 p.1.2 0 (selN O T.length p.1.1).length)), (7, iv (p.1.1 : Int))], [.row ((encNotes n).map .im), .vec 1 [] 0 true, .vec 1 (ims (T.map encL)) g nl, .vec 1 (ims ((selN O T.length p.1.1).map encI)) p.1.2 false]⟩) (fun p => O.length - p.1.1) ⟨(0, 0), by simp⟩ (Weak.of_keep [1,3,4,5,6,7] (by simp [hz])) ?_
    rintro ⟨⟨i, g2⟩, hi⟩
    simp only at hi
    simp only [iv, isv]
    by_cases hil : i < O.length
    · have hwi : IntKind.i64.wrap ((i : Int) + 1) = ((i + 1 : Nat) : Int) := i64w (by omega) (by omega)
      have hi63 : min i 64 = i := by omega
      have hin : ¬ ((i : Int) < 0) := by omega
      have hbit := bit_at T.length i
      have hSl := selN_len O T.length i
      obtain ⟨j, hj, hJ, hOi⟩ := hJi i hil
      have hJ2 : J[i]'(by omega) = (j : Int) := (List.getElem?_eq_some_iff.1 hJ).2
      have hsu : selN O T.length (i + 1) = selN O T.length i ++ (if T.length.testBit i = true then [n.notes[j].number] else []) := by
        rw [selN_succ, show O.getD i 0 = n.notes[j].number by simp [hil, hOi]]
      have hji : (j : Int) < n.notes.length := by omega
      generalize hx : n.notes[j] = x at *
      generalize selN O T.length i = S at *
      cases hb : T.length.testBit i
      · rw [hb] at hbit hsu
        simp at hbit
        rw [if_neg Bool.false_ne_true, List.append_nil] at hsu
        have hs : True := trivial
        repeat' first | (with_reducible first | refine q01 ?_ | refine q04 ?_ | refine q11 ?_ | refine q12 ?_ | refine q14 ?_) | (with_reducible refine DT_regionE [0,1,2,3,4,5,6,7,14,21,28] ?_; simp -dsimp [hJl, hil, hwi, hin, hi63, hb64, hbit, hs]) | (refine DT_cond rfl (fun h => ?_) (fun h => ?_) <;> (try simp only [nrm] at h) <;> (try exact Bool.noConfusion h))
        all_goals try simp -dsimp [hJl, hil, hwi, hin, hi63, hb64, hbit, hs]
        all_goals try clear hs
        all_goals exact At.round ⟨(i + 1, g2), by simp only; omega⟩ (by simp only; omega) (Weak.of_keep [1,3,4,5,6,7] (by simp [hsu]))
      · rw [hb] at hbit hsu
        simp at hbit
        rw [if_pos rfl] at hsu
        have hs : True := trivial
        repeat' first | (with_reducible first | refine q01 ?_ | refine q04 ?_ | refine q11 ?_ | refine q12 ?_ | refine q14 ?_ | refine And.intro (by omega) ?_) | (refine DT_regionM (id := 11) (nt := 46) 11 [0,1,2,3,4,5,6,7,14,21,28] mixed rfl (by kernel_rfl) ?_; simp -dsimp [hJl, hil, hwi, hin, hi63, hb64, hbit, hJ, hJ2, hx, hj, hji, hs]) | (with_reducible refine DT_regionE [0,1,2,3,4,5,6,7,14,21,28] ?_; simp -dsimp [hJl, hil, hwi, hin, hi63, hb64, hbit, hJ, hJ2, hx, hj, hji, hs]) | (refine DT_cond rfl (fun h => ?_) (fun h => ?_) <;> (try simp only [nrm] at h) <;> (try exact Bool.noConfusion h))
        all_goals try simp -dsimp [hJl, hil, hwi, hin, hi63, hb64, hbit, hJ, hJ2, hx, hj, hji, hs]
        all_goals try clear hs
        all_goals exact At.round ⟨(i + 1, g2 + 1), by simp only; omega⟩ (by simp only; omega) (Weak.of_drop [1,3,4,5,6,7] 4 (by simp) (by simp) (by simp [hsu]))
    · obtain rfl : i = O.length := by omega
      generalize selN O T.length O.length = S at *
      have hs : True := trivial
      repeat' first | (with_reducible first | refine q01 ?_ | refine q03 ?_ | refine q04 ?_ | refine q06 ?_ | refine q11 ?_ | refine q16 ?_ | refine And.intro (by omega) ?_) | (with_reducible refine DT_regionE [0,1,2,3,4,5,6,7,14,21,28] ?_; simp -dsimp [hJl, hw, hs]) | (refine DT_cond rfl (fun h => ?_) (fun h => ?_) <;> (try simp only [nrm] at h) <;> (try exact Bool.noConfusion h))
      all_goals try simp -dsimp [hJl, hw, hs]
      all_goals try clear hs
      all_goals exact At.round ⟨(T.length + 1, g + 1, false), by simp only; omega⟩ (by simp only; omega) (Weak.of_drop [1,3,4,5] 3 (by simp) (by simp) (by simp [htk]))
  · obtain rfl : k = P := by omega
    rw [hTz]
    generalize trTo O k = T at *
    subst hkl
    have hs : True := trivial
    repeat' first | (with_reducible first | refine q01 ?_ | refine q03 ?_ | refine q06 ?_ | refine q11 ?_ | refine q16 ?_ | refine q17 ?_) | (with_reducible refine At.fn_ret (by simp -dsimp [hJl, hmin, hb64, hsh, hlnn, hs]; exact rfl) ?_) | (with_reducible refine DT_regionE [0,1,2,3,4,5,6,7,14,21,28] ?_; simp -dsimp [hJl, hmin, hb64, hsh, hlnn, hs]) | (refine DT_cond rfl (fun h => ?_) (fun h => ?_) <;> (try simp only [nrm] at h) <;> (try exact Bool.noConfusion h))
    all_goals try simp -dsimp [hJl, hmin, hb64, hsh, hlnn, hs]
    all_goals try clear hs
    all_goals simp
end Go.Proofs
namespace Go.Proofs
open Go Go.Ab
variable {G : Nat → Option (List IC)}
def noteG (G : Nat → Option (List IC)) : Prop := G 0 = some [.fn (.func 158) [], .fn (.func 159) [], .fn (.func 160) [], .fn (.func 161) [], .fn (.func 163) [], .fn (.func 164) [], .fn (.func 167) [], .fn (.func 169) []]
def SortOk (G : Nat → Option (List IC)) : Prop := ∀ (l : List Int) (g sz : Nat) (nl : Bool), (sz = 1 ∨ nl = true ∧ l = []) → l.length < 1000000 → DCall Tryz.prog G 56 [.one (.vec 0 g 0 l.length)] [.vec sz (ims (l.map encI)) g nl] (fun d o => d = .tup [] ∧ o = [.vec sz (ims ((isort l).map encI)) g nl])
def fileI (n : Notes) : IC := .ip [.sl (n.reg.map encIssue), .sl (n.notes.map encNote), .sl ((nums n.reg).map encI), .sl ((isort (openL n.notes)).map encI)]
def fileR (n : Notes) : DV := if notesE n = 0 then .one (.im (fileI n)) else .one (.im (.raw (.pointer none)))
theorem fileR_im (n : Notes) : ImV (fileR n) := by unfold fileR; split <;> simp [fileI]
attribute [simp] fileR_im
theorem notesE_bad {n : Notes} {i : Nat} {x : Note} (h0 : checkR n.reg = 0) (hx : n.notes[i]? = some x) (h : nkA n i x = false) : notesE n = 30 := by
  unfold notesE
  rw [if_neg (by simp [h0]), if_neg]
  intro hb
  have := (notesB_iff.1 hb).2.1 i x hx
  rw [h] at this; cases this
set_option maxHeartbeats 4000000 in
theorem opened_c (n : Notes) (hG : sheetG G) (hN : noteG G) (hS : SortOk G) (hs : NSm n) (objs : List DObj) : DCall Tryz.prog G 60 [notesv n] objs (fun rr objs' => rr = .tup [fileR n, iv (notesE n)] ∧ objs' = objs) := by
  refine DCall.frame ?_ (by simp) (by simp) objs
  refine DCall_intro Tryz.func60 rfl Tryz.ntmps60 (by simp) rfl ?_
  try simp only [notesv]
  have hN' : G 0 = some [.fn (.func 158) [], .fn (.func 159) [], .fn (.func 160) [], .fn (.func 161) [], .fn (.func 163) [], .fn (.func 164) [], .fn (.func 167) [], .fn (.func 169) []] := hN
  obtain ⟨hsr, hsn, hsx⟩ := hs
  have c1 := drawings_c n.reg hG hsr
  by_cases h0 : checkR n.reg = 0
  · rw [h0, show drawR n.reg = nums n.reg by simp [drawR, h0]] at c1
    by_cases hl : n.notes.length ≤ 12
    · have hli : ¬ (12 : Int) < n.notes.length := by omega
      have hE : notesE n = if notesB n then 0 else 30 := by unfold notesE; rw [if_neg (by simp [h0])]
      have hs : True := trivial
      repeat' first | (with_reducible first | refine q01 ?_ | refine q11 ?_ | refine q12 ?_ | refine q13 ?_ | refine q14 ?_ | refine q15 ?_) | (refine CallE.pure (c1) ?_; try simp -dsimp [hli, hs]) | (with_reducible refine DT_regionN (id := 6) (nt := 78) [0,1,2,3,4,5,6,7,8,9,11,19,24,30,31,32,33,37,38,39,46,50,71] rfl ?_; simp -dsimp [hli, hs]) | (with_reducible refine DT_regionE [0,1,2,3,4,5,6,7,8,9,11,19,24,30,31,32,33,37,38,39,46,50,71] ?_; simp -dsimp [hli, hs]) | (refine DT_cond rfl (fun h => ?_) (fun h => ?_) <;> (try simp only [nrm] at h) <;> (try exact Bool.noConfusion h))
      all_goals try simp -dsimp [hli, hs]
      all_goals try clear hs
      refine DT_loop (ι := { p : Nat × Nat × Nat × Bool // p.1 ≤ n.notes.length ∧ (p.2.2.1 = 1 ∨ p.2.2.2 = true ∧ openL (n.notes.take p.1) = []) ∧ ∀ (j : Nat) (x : Note), j < p.1 → n.notes[j]? = some x → nkA n j x = true }) (fun p => ⟨78, [(1, .one (.ptr 0 0)), (2, .one (.im (.raw (.pointer none)))), (3, iv 0), (6, .one (.ptr 5 0)), (7, bv false), (30, .one (.im (.sl (n.notes.map encNote)))), (31, iv (n.notes.length : Int)), (32, iv (p.1.1 : Int))], [.row ((encNotes n).map .im), .vec 0 [] 0 true, .vec 0 [] 0 true, .vec 0 [] 0 true, .vec p.1.2.2.1 (ims ((openL (n.notes.take p.1.1)).map encI)) p.1.2.1 p.1.2.2.2, .row [.im (.sl (n.reg.map encIssue)), .im (.sl (n.notes.map encNote)), .im (.sl ((nums n.reg).map encI)), .vec 4 p.1.2.1 0 (openL (n.notes.take p.1.1)).length]]⟩) (fun p => n.notes.length - p.1.1) ⟨(0, 0, 0, true), by simp [openL]⟩ (Weak.of_drop [1,2,3,6,7,30,31,32] 6 (by simp) (by simp) (by simp [openL])) ?_
      rintro ⟨⟨k, g, sz, nl⟩, hk, hsz, hok⟩
      simp only at hk hsz hok
      simp only [iv, bv]
      by_cases hlt : k < n.notes.length
      · have hx0 : n.notes[k]? = some n.notes[k] := by simp [hlt]
        have hw : IntKind.i64.wrap ((k : Int) + 1) = ((k + 1 : Nat) : Int) := i64w (by omega) (by omega)
        have hos := openL_snoc n.notes k hlt
        have hol := openL_len (n.notes.take k)
        rw [List.length_take] at hol
        generalize hx : n.notes[k] = x at *
        have k1 := nk1_c (G := G) n k x hx0
        have k2 := nk2_c (G := G) n k x hx0
        have k3 := nk3_c (G := G) n k x hx0
        have k4 := nk4_c (G := G) n k x hx0 hG hsr
        have k5 := nk5_c (G := G) n k x hx0
        have k6 := nk6_c (G := G) n k x hx0 (by omega)
        have k7 := nk7_c (G := G) n k x hx0 (by omega)
        have k8 := nk8_c (G := G) n k x hx0 (by omega)
        rw [show nk1 x = nkI n k x 0 from rfl] at k1
        rw [show nk2 x = nkI n k x 1 from rfl] at k2
        rw [show nk3 x = nkI n k x 2 from rfl] at k3
        rw [show nk4 n.reg x = nkI n k x 3 from rfl] at k4
        rw [show nk5 x = nkI n k x 4 from rfl] at k5
        rw [show nk6 n.notes k x = nkI n k x 5 from rfl] at k6
        rw [show nk7 n.notes k x = nkI n k x 6 from rfl] at k7
        rw [show nk8 n.notes k x = nkI n k x 7 from rfl] at k8
        have hbad : ∀ c, nkI n k x c = false → notesE n = 30 := fun c h => notesE_bad h0 hx0 (nkI_bad h)
        have hstep : nkA n k x = true → ∀ (j : Nat) (z : Note), j < k + 1 → n.notes[j]? = some z → nkA n j z = true := fun h j z hj hz => by
          by_cases e : j = k
          · subst e; rw [hx0] at hz; cases hz; exact h
          · exact hok j z (by omega) hz
        have hs : True := trivial
        repeat' first | (with_reducible first | refine q01 ?_ | refine q11 ?_ | refine q12 ?_ | refine q14 ?_) | (with_reducible refine DT_regionE [0,1,2,3,4,5,6,7,8,9,11,19,24,30,31,32,33,37,38,39,46,50,71] ?_; simp -dsimp [hx, hlt, hN', hs]) | (refine DT_cond rfl (fun h => ?_) (fun h => ?_) <;> (try simp only [nrm] at h) <;> (try exact Bool.noConfusion h))
        all_goals try simp -dsimp [hx, hlt, hN', hs]
        all_goals try clear hs
        refine DT_loop (ι := { c : Nat // c ≤ 8 ∧ ∀ e < c, nkI n k x e = true }) (fun p => ⟨78, [(1, .one (.ptr 0 0)), (2, .one (.im (.raw (.pointer none)))), (3, iv 0), (6, .one (.ptr 5 0)), (7, bv false), (8, iv (k : Int)), (9, .one (.ptr 6 0)), (30, .one (.im (.sl (n.notes.map encNote)))), (31, iv (n.notes.length : Int)), (32, iv (k : Int)), (37, .agg [.im (.fn (.func 158) []), .im (.fn (.func 159) []), .im (.fn (.func 160) []), .im (.fn (.func 161) []), .im (.fn (.func 163) []), .im (.fn (.func 164) []), .im (.fn (.func 167) []), .im (.fn (.func 169) [])]), (38, iv (p.1 : Int))], [.row ((encNotes n).map .im), .vec 0 [] 0 true, .vec 0 [] 0 true, .vec 0 [] 0 true, .vec sz (ims ((openL (n.notes.take k)).map encI)) g nl, .row [.im (.sl (n.reg.map encIssue)), .im (.sl (n.notes.map encNote)), .im (.sl ((nums n.reg).map encI)), .vec 4 g 0 (openL (n.notes.take k)).length], .row ((encNote x).map .im)]⟩) (fun p => 8 - p.1) ⟨0, by simp⟩ (Weak.of_keep [1,2,3,6,7,8,9,30,31,32,37,38] (by simp)) ?_
        rintro ⟨c, hc, hcc⟩
        simp only [iv, bv]
        by_cases hc8 : c < 8
        · have hm : nkI n k x c = true → ∀ e < c + 1, nkI n k x e = true := fun h e he => by
            rcases Nat.lt_succ_iff_lt_or_eq.1 he with h1 | rfl
            · exact hcc e h1
            · exact h
          have hbc := hbad c
          have hi8 : c = 0 ∨ c = 1 ∨ c = 2 ∨ c = 3 ∨ c = 4 ∨ c = 5 ∨ c = 6 ∨ c = 7 := by omega
          rcases hi8 with rfl | rfl | rfl | rfl | rfl | rfl | rfl | rfl
          all_goals
            have hs : True := trivial
            repeat' first | (with_reducible first | refine q01 ?_ | refine q02 ?_ | refine q03 ?_ | refine q04 ?_ | refine q06 ?_ | refine q07 (by decide) ?_ | refine q09 ?_ | refine q11 ?_ | refine q12 ?_ | refine q14 ?_ | refine q16 ?_ | refine q17 ?_) | (with_reducible refine At.fn_ret (by simp -dsimp [hli, hs]; exact rfl) ?_) | (refine CallE.pure (k1) ?_; try simp -dsimp [hli, hs]) | (refine CallE.pure (k2) ?_; try simp -dsimp [hli, hs]) | (refine CallE.pure (k3) ?_; try simp -dsimp [hli, hs]) | (refine CallE.pure (k4) ?_; try simp -dsimp [hli, hs]) | (refine CallE.pure (k5) ?_; try simp -dsimp [hli, hs]) | (refine CallE.pure (k6) ?_; try simp -dsimp [hli, hs]) | (refine CallE.pure (k7) ?_; try simp -dsimp [hli, hs]) | (refine CallE.pure (k8) ?_; try simp -dsimp [hli, hs]) | (with_reducible refine DT_regionE [0,1,2,3,4,5,6,7,8,9,11,19,24,30,31,32,33,37,38,39,46,50,71] ?_; simp -dsimp [hli, hs]) | (refine DT_cond rfl (fun h => ?_) (fun h => ?_) <;> (try simp only [nrm] at h) <;> (try exact Bool.noConfusion h))
            all_goals try simp -dsimp [hli, hs]
            all_goals try clear hs
          all_goals try (have h30 := hbc (by assumption); simp [fileR, h30]; done)
          all_goals exact At.round ⟨_, by omega, hm (by assumption)⟩ (by simp) (Weak.of_drop [1,2,3,6,7,8,9,30,31,32,37,38] 7 (by simp) (by simp) (by simp; exact i64w (by omega) (by omega)))
        · obtain rfl : c = 8 := by omega
          have hok1 := hstep (nkI_all hcc)
          have hsz' : sz = 1 ∨ nl = true := hsz.imp id And.left
          clear k1 k2 k3 k4 k5 k6 k7 k8
          by_cases hsg : x.signed = 1
          · rw [if_pos hsg] at hos
            have hs : True := trivial
            repeat' first | (with_reducible first | refine q01 ?_ | refine q03 ?_ | refine q04 ?_ | refine q06 ?_ | refine q11 ?_ | refine q16 ?_ | refine And.intro (by omega) ?_) | (refine DT_regionX (id := 18) (nt := 78) 8 [0] [0,1,2,3,4,5,6,7,8,9,11,19,24,30,31,32,33,37,38,39,46,50,52,53,54,55,56,57,58,71] [0,1,2,3,4,5,6,7,8,9,11,19,24,30,31,32,33,37,38,39,46,50,71] mixed rfl (by kernel_rfl) ?_; simp -dsimp [hx, hlt, hsg, hw, hsz', hs]) | (with_reducible refine DT_regionE [0,1,2,3,4,5,6,7,8,9,11,19,24,30,31,32,33,37,38,39,46,50,71] ?_; simp -dsimp [hx, hlt, hsg, hw, hsz', hs]) | (refine DT_cond rfl (fun h => ?_) (fun h => ?_) <;> (try simp only [nrm] at h) <;> (try exact Bool.noConfusion h))
            all_goals try simp -dsimp [hx, hlt, hsg, hw, hsz', hs]
            all_goals try clear hs
            exact At.round ⟨(k + 1, g + 1, 1, false), by omega, .inl rfl, hok1⟩ (by simp; omega) (Weak.of_drop [1,2,3,6,7,30,31,32] 6 (by simp) (by simp) (by simp [hos]))
          · rw [if_neg hsg, List.append_nil] at hos
            have hszn : sz = 1 ∨ nl = true ∧ openL (n.notes.take (k + 1)) = [] := by rw [hos]; exact hsz
            have hs : True := trivial
            repeat' first | (with_reducible first | refine q01 ?_ | refine q03 ?_ | refine q04 ?_ | refine q06 ?_ | refine q11 ?_ | refine q14 ?_ | refine q16 ?_) | (with_reducible refine DT_regionE [0,1,2,3,4,5,6,7,8,9,11,19,24,30,31,32,33,37,38,39,46,50,71] ?_; simp -dsimp [hx, hlt, hsg, hw, hs]) | (refine DT_cond rfl (fun h => ?_) (fun h => ?_) <;> (try simp only [nrm] at h) <;> (try exact Bool.noConfusion h))
            all_goals try simp -dsimp [hx, hlt, hsg, hw, hs]
            all_goals try clear hs
            exact At.round ⟨(k + 1, g, sz, nl), by omega, hszn, hok1⟩ (by simp; omega) (Weak.of_drop [1,2,3,6,7,30,31,32] 6 (by simp) (by simp) (by simp [hos]))
      · obtain rfl : k = n.notes.length := by omega
        rw [List.take_length] at *
        have hall : allOk n := fun i x hx => hok i x (lt_of_getElem? hx) hx
        have hol := openL_len n.notes
        have c2 := hS (openL n.notes) g sz nl hsz (by omega)
        have hil := isort_len (openL n.notes)
        by_cases h5 : (openL n.notes).length ≤ 5
        · have hE0 : notesE n = 0 := by rw [hE, if_pos (notesB_iff.2 ⟨hl, hall, h5⟩)]
          have h5i : ¬ (5 : Int) < (openL n.notes).length := by omega
          have hsz' : sz = 1 ∨ nl = true := hsz.imp id And.left
          have htk : (ims ((isort (openL n.notes)).map encI)).take (openL n.notes).length = ims ((isort (openL n.notes)).map encI) := List.take_of_length_le (by simp [ims_length, hil])
          have hs : True := trivial
          repeat' first | (with_reducible first | refine q01 ?_ | refine q03 ?_ | refine q06 ?_ | refine q09 ?_ | refine q11 ?_ | refine q14 ?_ | refine q16 ?_ | refine q17 ?_) | (with_reducible refine At.fn_ret (by simp -dsimp [hlt, h5i, hsz', htk, hil, hs]; exact rfl) ?_) | (refine CallE.embed [4] (c2) ?_ ?_ ?_ ?_ ?_ ?_; (focus (simp [emb]; done)); (focus (simp; done)); (focus (simp; done)); (focus (simp; done)); (focus (refine emb_all ?_; simp [emb, embAll]; done)); try simp -dsimp [mergeO, emb, hlt, h5i, hsz', htk, hil, hs]) | (with_reducible refine DT_regionE [0,1,2,3,4,5,6,7,8,9,11,19,24,30,31,32,33,37,38,39,46,50,71] ?_; simp -dsimp [hlt, h5i, hsz', htk, hil, hs]) | (refine DT_cond rfl (fun h => ?_) (fun h => ?_) <;> (try simp only [nrm] at h) <;> (try exact Bool.noConfusion h))
          all_goals try simp -dsimp [hlt, h5i, hsz', htk, hil, hs]
          all_goals try clear hs
          all_goals simp [fileR, hE0, fileI, hil, htk]
        · have hE0 : notesE n = 30 := by rw [hE, if_neg fun h => h5 (notesB_iff.1 h).2.2]
          have h5i : (5 : Int) < (openL n.notes).length := by omega
          have hs : True := trivial
          repeat' first | (with_reducible first | refine q01 ?_ | refine q02 ?_ | refine q03 ?_ | refine q06 ?_ | refine q09 ?_ | refine q11 ?_ | refine q16 ?_ | refine q17 ?_) | (with_reducible refine At.fn_ret (by simp -dsimp [hlt, h5i, hs]; exact rfl) ?_) | (with_reducible refine DT_regionE [0,1,2,3,4,5,6,7,8,9,11,19,24,30,31,32,33,37,38,39,46,50,71] ?_; simp -dsimp [hlt, h5i, hs]) | (refine DT_cond rfl (fun h => ?_) (fun h => ?_) <;> (try simp only [nrm] at h) <;> (try exact Bool.noConfusion h))
          all_goals try simp -dsimp [hlt, h5i, hs]
          all_goals try clear hs
          all_goals simp [fileR, hE0]
    · have hE : notesE n = 30 := by
        unfold notesE
        rw [if_neg (by simp [h0]), if_neg fun h => hl (notesB_iff.1 h).1]
      have hli : (12 : Int) < n.notes.length := by omega
      have hs : True := trivial
      repeat' first | (with_reducible first | refine q01 ?_ | refine q02 ?_ | refine q09 ?_ | refine q11 ?_ | refine q13 ?_ | refine q14 ?_ | refine q17 ?_) | (with_reducible refine At.fn_ret (by simp -dsimp [hli, hs]; exact rfl) ?_) | (refine CallE.pure (c1) ?_; try simp -dsimp [hli, hs]) | (with_reducible refine DT_regionE [0,1,2,3,4,5,6,7,8,9,11,19,24,30,31,32,33,37,38,39,46,50,71] ?_; simp -dsimp [hli, hs]) | (refine DT_cond rfl (fun h => ?_) (fun h => ?_) <;> (try simp only [nrm] at h) <;> (try exact Bool.noConfusion h))
      all_goals try simp -dsimp [hli, hs]
      all_goals try clear hs
      all_goals simp [fileR, hE]
  · have hE : notesE n = checkR n.reg := by unfold notesE; rw [if_pos h0]
    have hs : True := trivial
    repeat' first | (with_reducible first | refine q01 ?_ | refine q02 ?_ | refine q09 ?_ | refine q11 ?_ | refine q13 ?_ | refine q17 ?_) | (with_reducible refine At.fn_ret (by simp -dsimp [h0, hs]; exact rfl) ?_) | (refine CallE.pure (c1) ?_; try simp -dsimp [h0, hs]) | (with_reducible refine DT_regionE [0,1,2,3,4,5,6,7,8,9,11,19,24,30,31,32,33,37,38,39,46,50,71] ?_; simp -dsimp [h0, hs]) | (refine DT_cond rfl (fun h => ?_) (fun h => ?_) <;> (try simp only [nrm] at h) <;> (try exact Bool.noConfusion h))
    all_goals try simp -dsimp [h0, hs]
    all_goals try clear hs
    all_goals simp [fileR, hE, h0]
end Go.Proofs
