/- Part 11 of the proof whose last text closes the card: laws and walks that hold without conditions beyond those that each theorem names. -/
import Derived.Test.YtmonmfpdckdoiaaGreatDoorA07
import Derived.Test.YtmonmfpdckdoiaaGreatDoorA10
set_option linter.all false
set_option linter.deprecated false
namespace Go.Proofs
open Go Go.Ab
attribute [local simp] dslice setLp
set_option linter.unusedSimpArgs false
variable {G : Nat → Option (List IC)}
theorem sameInts_c (l r : List Int) (hl : l.length < 1000000) (objs : List DObj) : DCall Tryz.prog G 11 [isv l, isv r] objs (fun d objs' => d = bv (decide (l = r)) ∧ objs' = objs) := by
  refine DCall.frame ?_ (by simp) (by simp) objs
  refine DCall_intro Tryz.func11 rfl Tryz.ntmps11 (by simp) rfl ?_
  simp only [isv, bv]
  have hs : True := trivial
  repeat' first | (with_reducible first | refine q01 ?_ | refine q02 ?_ | refine q11 ?_ | refine q12 ?_ | refine q14 ?_ | refine q17 ?_) | (with_reducible refine At.fn_ret (by simp -dsimp [hs]; exact rfl) ?_) | (with_reducible refine DT_regionE [0, 1, 4, 5, 10, 14, 25] ?_; simp -dsimp [hs]) | (refine DT_cond rfl (fun h => ?_) (fun h => ?_) <;> (try simp only [nrm] at h) <;> (try exact Bool.noConfusion h))
  all_goals try simp -dsimp [hs]
  all_goals try clear hs
  · rintro rfl; omega
  · have hlen : l.length = r.length := by omega
    refine DT_loop (ι := { k : Nat // k ≤ l.length ∧ ∀ j, j < k → l[j]? = r[j]? }) (fun p => ⟨26, [(0, isv l), (1, isv r), (5, iv (p.1 : Int))], []⟩) (fun p => l.length - p.1) ⟨0, by simp⟩ (Weak.of_keep [0,1,5] (by simp [iv, isv])) ?_
    rintro ⟨k, hk, hno⟩
    simp only [iv, isv]
    by_cases hlt : k < l.length
    · have hx : l[k]? = some l[k] := by simp [hlt]
      have hltr : k < r.length := by omega
      have hy : r[k]? = some r[k] := by simp [hltr]
      have hw : IntKind.i64.wrap ((k : Int) + 1) = ((k + 1 : Nat) : Int) := i64w (by omega) (by omega)
      have hs : True := trivial
      repeat' first | (with_reducible first | refine q01 ?_ | refine q02 ?_ | refine q03 ?_ | refine q04 ?_ | refine q05 ?_ | refine q06 ?_ | refine q11 ?_ | refine q12 ?_ | refine q14 ?_ | refine q16 ?_ | refine q17 ?_) | (with_reducible refine At.fn_ret (by simp -dsimp [hx, hy, encI, rI, hw, hs]; exact rfl) ?_) | (refine DT_regionM (id := 6) (nt := 26) 9 [0, 1, 4, 5, 10, 14, 25] mixed rfl (by kernel_rfl) ?_; simp -dsimp [hx, hy, encI, rI, hw, hs]) | (with_reducible refine DT_regionE [0, 1, 4, 5, 10, 14, 25] ?_; simp -dsimp [hx, hy, encI, rI, hw, hs]) | (refine DT_cond rfl (fun h => ?_) (fun h => ?_) <;> (try simp only [nrm] at h) <;> (try exact Bool.noConfusion h))
      all_goals try simp -dsimp [hx, hy, encI, rI, hw, hs]
      all_goals try clear hs
      all_goals try omega
      · rename_i h
        rintro rfl; exact h rfl
      · rename_i h
        refine At.round ⟨k + 1, by omega, fun j hj => ?_⟩ (by simp; omega) (Weak.of_keep [0,1,5] (by simp))
        by_cases e : j = k
        · subst e; rw [hx, hy, h]
        · exact hno j (by omega)
    · have hs : True := trivial
      repeat' first | (with_reducible first | refine q01 ?_ | refine q03 ?_ | refine q06 ?_ | refine q11 ?_ | refine q16 ?_ | refine q17 ?_) | (with_reducible refine At.fn_ret (by simp -dsimp [hlt, hs]; exact rfl) ?_) | (with_reducible refine DT_regionE [0, 1, 4, 5, 10, 14, 25] ?_; simp -dsimp [hlt, hs]) | (refine DT_cond rfl (fun h => ?_) (fun h => ?_) <;> (try simp only [nrm] at h) <;> (try exact Bool.noConfusion h))
      all_goals try simp -dsimp [hlt, hs]
      all_goals try clear hs
      refine List.ext_getElem? fun j => ?_
      by_cases hj : j < k
      · exact hno j hj
      · rw [List.getElem?_eq_none (by omega), List.getElem?_eq_none (by omega)]
end Go.Proofs
namespace Go.Proofs
open Go Go.Ab
attribute [local simp] dslice setLp
set_option linter.unusedSimpArgs false
variable {G : Nat → Option (List IC)}
def itv (l : List Itm) : DV := .one (.im (.sl (l.map encItem)))
attribute [simp] itv
theorem sameItems_c (l r : List Itm) (hl : l.length < 1000000) (objs : List DObj) : DCall Tryz.prog G 128 [itv l, itv r] objs (fun d objs' => d = bv (decide (l = r)) ∧ objs' = objs) := by
  refine DCall.frame ?_ (by simp) (by simp) objs
  refine DCall_intro Tryz.func128 rfl Tryz.ntmps128 (by simp) rfl ?_
  simp only [itv, bv]
  have hs : True := trivial
  repeat' first | (with_reducible first | refine q01 ?_ | refine q02 ?_ | refine q11 ?_ | refine q12 ?_ | refine q14 ?_ | refine q17 ?_) | (with_reducible refine At.fn_ret (by simp -dsimp [hs]; exact rfl) ?_) | (with_reducible refine DT_regionE [0, 1, 4, 5, 10, 14, 25] ?_; simp -dsimp [hs]) | (refine DT_cond rfl (fun h => ?_) (fun h => ?_) <;> (try simp only [nrm] at h) <;> (try exact Bool.noConfusion h))
  all_goals try simp -dsimp [hs]
  all_goals try clear hs
  · rintro rfl; omega
  · have hlen : l.length = r.length := by omega
    refine DT_loop (ι := { k : Nat // k ≤ l.length ∧ ∀ j, j < k → l[j]? = r[j]? }) (fun p => ⟨26, [(0, itv l), (1, itv r), (5, iv (p.1 : Int))], []⟩) (fun p => l.length - p.1) ⟨0, by simp⟩ (Weak.of_keep [0,1,5] (by simp [iv, itv])) ?_
    rintro ⟨k, hk, hno⟩
    simp only [iv, itv]
    by_cases hlt : k < l.length
    · have hx : l[k]? = some l[k] := by simp [hlt]
      have hltr : k < r.length := by omega
      have hy : r[k]? = some r[k] := by simp [hltr]
      have hw : IntKind.i64.wrap ((k : Int) + 1) = ((k + 1 : Nat) : Int) := i64w (by omega) (by omega)
      have hs : True := trivial
      repeat' first | (with_reducible first | refine q01 ?_ | refine q02 ?_ | refine q03 ?_ | refine q04 ?_ | refine q05 ?_ | refine q06 ?_ | refine q11 ?_ | refine q12 ?_ | refine q14 ?_ | refine q16 ?_ | refine q17 ?_) | (with_reducible refine At.fn_ret (by simp -dsimp [hx, hy, encItem, rI, hw, hs]; exact rfl) ?_) | (refine DT_regionM (id := 6) (nt := 26) 9 [0, 1, 4, 5, 10, 14, 25] mixed rfl (by kernel_rfl) ?_; simp -dsimp [hx, hy, encItem, rI, hw, hs]) | (with_reducible refine DT_regionE [0, 1, 4, 5, 10, 14, 25] ?_; simp -dsimp [hx, hy, encItem, rI, hw, hs]) | (refine DT_cond rfl (fun h => ?_) (fun h => ?_) <;> (try simp only [nrm] at h) <;> (try exact Bool.noConfusion h))
      all_goals try simp -dsimp [hx, hy, encItem, rI, hw, hs]
      all_goals try clear hs
      all_goals try omega
      · rename_i h
        rintro rfl; simp at h
      · rename_i h
        refine At.round ⟨k + 1, by omega, fun j hj => ?_⟩ (by simp; omega) (Weak.of_keep [0,1,5] (by simp))
        by_cases e : j = k
        · subst e
          have : l[j] = r[j] := by cases hc : l[j]; cases hd : r[j]; rw [hc, hd] at h; simp at h; simp [h]
          rw [hx, hy, this]
        · exact hno j (by omega)
    · have hs : True := trivial
      repeat' first | (with_reducible first | refine q01 ?_ | refine q03 ?_ | refine q06 ?_ | refine q11 ?_ | refine q16 ?_ | refine q17 ?_) | (with_reducible refine At.fn_ret (by simp -dsimp [hlt, hs]; exact rfl) ?_) | (with_reducible refine DT_regionE [0, 1, 4, 5, 10, 14, 25] ?_; simp -dsimp [hlt, hs]) | (refine DT_cond rfl (fun h => ?_) (fun h => ?_) <;> (try simp only [nrm] at h) <;> (try exact Bool.noConfusion h))
      all_goals try simp -dsimp [hlt, hs]
      all_goals try clear hs
      refine List.ext_getElem? fun j => ?_
      by_cases hj : j < k
      · exact hno j hj
      · rw [List.getElem?_eq_none (by omega), List.getElem?_eq_none (by omega)]
end Go.Proofs
namespace Go.Proofs
open Go Go.Ab
attribute [local simp] dslice setLp
set_option linter.unusedSimpArgs false
variable {G : Nat → Option (List IC)}
theorem sameIssue_c (x y : Issue) (hx : x.items.length < 1000000 ∧ x.dims.length < 1000000) (objs : List DObj) : DCall Tryz.prog G 95 [issv x, issv y] objs (fun d objs' => d = bv (decide (x = y)) ∧ objs' = objs) := by
  refine DCall.frame ?_ (by simp) (by simp) objs
  refine DCall_intro Tryz.func95 rfl Tryz.ntmps95 (by simp) rfl ?_
  have hc := fun objs => sameItems_c (G := G) x.items y.items hx.1 objs
  simp only [itv] at hc
  simp only [issv, bv]
  have hs : True := trivial
  repeat' first | (with_reducible first | refine q01 ?_ | refine q02 ?_ | refine q11 ?_ | refine q12 ?_ | refine q14 ?_ | refine q17 ?_) | (with_reducible refine At.fn_ret (by simp -dsimp [encIssue, rI, bv, hs]; exact rfl) ?_) | (refine CallE.pure hc ?_; try simp -dsimp [encIssue, rI, bv, hs]) | (with_reducible refine DT_regionE [0, 1, 2, 3, 4, 5, 41, 46, 59] ?_; simp -dsimp [encIssue, rI, bv, hs]) | (refine DT_cond rfl (fun h => ?_) (fun h => ?_) <;> (try simp only [nrm] at h) <;> (try exact Bool.noConfusion h)) | (with_reducible refine GStop_split ?_ ?_ <;> intro h <;> have h0 := h <;> (try simp only [nrm] at h) <;> (try exact Bool.noConfusion h) <;> have h2 := h <;> (try simp at h2) <;> (replace hs := And.intro h0 (And.intro h (And.intro h2 hs))) <;> simp -dsimp [h0, h, h2, encIssue, rI, bv, hs])
  all_goals try simp -dsimp [encIssue, rI, bv, hs]
  all_goals try clear hs
  all_goals try (rintro rfl; simp_all; done)
  obtain ⟨hx1, hx2⟩ := hx
  have e1 : x.drawing = y.drawing := by assumption
  have e2 : x.letter = y.letter := by assumption
  have e3 : x.kind = y.kind := by assumption
  have e4 : x.items = y.items := by assumption
  have e5 : x.dims.length = y.dims.length := by omega
  refine DT_loop (ι := { k : Nat // k ≤ x.dims.length ∧ ∀ j, j < k → x.dims[j]? = y.dims[j]? }) (fun p => ⟨60, [(2, .one (.ptr 0 0)), (3, .one (.ptr 1 0)), (5, iv (p.1 : Int))], [.row ((encIssue x).map .im), .row ((encIssue y).map .im)]⟩) (fun p => x.dims.length - p.1) ⟨0, by simp⟩ (Weak.of_keep [2,3,5] (by simp [iv, encIssue, rI, ← e1, ← e2, ← e3, ← e4])) ?_
  rintro ⟨k, hk, hno⟩
  simp only [iv, encIssue, rI, List.map_cons, List.map_nil]
  by_cases hlt : k < x.dims.length
  · have hx : x.dims[k]? = some x.dims[k] := by simp [hlt]
    have hltr : k < y.dims.length := by omega
    have hy : y.dims[k]? = some y.dims[k] := by simp [hltr]
    have hw : IntKind.i64.wrap ((k : Int) + 1) = ((k + 1 : Nat) : Int) := i64w (by omega) (by omega)
    have hs : True := trivial
    repeat' first | (with_reducible first | refine q01 ?_ | refine q02 ?_ | refine q03 ?_ | refine q04 ?_ | refine q05 ?_ | refine q06 ?_ | refine q11 ?_ | refine q12 ?_ | refine q14 ?_ | refine q16 ?_ | refine q17 ?_) | (with_reducible refine At.fn_ret (by simp -dsimp [hx, hy, encDim, rI, hw, hs]; exact rfl) ?_) | (refine DT_regionM (id := 6) (nt := 60) 11 [0, 1, 2, 3, 4, 5, 41, 46, 59] mixed rfl (by kernel_rfl) ?_; simp -dsimp [hx, hy, encDim, rI, hw, hs]) | (with_reducible refine DT_regionE [0, 1, 2, 3, 4, 5, 41, 46, 59] ?_; simp -dsimp [hx, hy, encDim, rI, hw, hs]) | (refine DT_cond rfl (fun h => ?_) (fun h => ?_) <;> (try simp only [nrm] at h) <;> (try exact Bool.noConfusion h))
    all_goals try simp -dsimp [hx, hy, encDim, rI, hw, hs]
    all_goals try clear hs
    all_goals try omega
    · rename_i h
      rintro rfl; simp at h
    · rename_i h
      refine At.round ⟨k + 1, by omega, fun j hj => ?_⟩ (by simp; omega) (Weak.of_keep [2,3,5] (by simp))
      by_cases e : j = k
      · subst e
        have : x.dims[j] = y.dims[j] := by cases hc : x.dims[j]; cases hd : y.dims[j]; rw [hc, hd] at h; simp at h; simp [h]
        rw [hx, hy, this]
      · exact hno j (by omega)
  · have hs : True := trivial
    repeat' first | (with_reducible first | refine q01 ?_ | refine q03 ?_ | refine q06 ?_ | refine q11 ?_ | refine q16 ?_ | refine q17 ?_) | (with_reducible refine At.fn_ret (by simp -dsimp [hlt, hs]; exact rfl) ?_) | (with_reducible refine DT_regionE [0, 1, 2, 3, 4, 5, 41, 46, 59] ?_; simp -dsimp [hlt, hs]) | (refine DT_cond rfl (fun h => ?_) (fun h => ?_) <;> (try simp only [nrm] at h) <;> (try exact Bool.noConfusion h))
    all_goals try simp -dsimp [hlt, hs]
    all_goals try clear hs
    have : x.dims = y.dims := by
      refine List.ext_getElem? fun j => ?_
      by_cases hj : j < k
      · exact hno j hj
      · rw [List.getElem?_eq_none (by omega), List.getElem?_eq_none (by omega)]
    cases x; cases y; simp_all
end Go.Proofs
namespace Go.Proofs
open Go Go.Ab
attribute [local simp] dslice setLp
set_option linter.unusedSimpArgs false
variable {G : Nat → Option (List IC)}
theorem same_c (l r : List Issue) (hl : Small l) (objs : List DObj) : DCall Tryz.prog G 45 [regv l, regv r] objs (fun d objs' => d = bv (decide (l = r)) ∧ objs' = objs) := by
  refine DCall.frame ?_ (by simp) (by simp) objs
  refine DCall_intro Tryz.func45 rfl Tryz.ntmps45 (by simp) rfl ?_
  obtain ⟨hl1, hl2⟩ := hl
  simp only [regv, bv]
  have hs : True := trivial
  repeat' first | (with_reducible first | refine q01 ?_ | refine q02 ?_ | refine q11 ?_ | refine q12 ?_ | refine q14 ?_ | refine q17 ?_) | (with_reducible refine At.fn_ret (by simp -dsimp [hs]; exact rfl) ?_) | (with_reducible refine DT_regionE [0, 1, 2, 3, 4, 5, 12, 17, 31] ?_; simp -dsimp [hs]) | (refine DT_cond rfl (fun h => ?_) (fun h => ?_) <;> (try simp only [nrm] at h) <;> (try exact Bool.noConfusion h))
  all_goals try simp -dsimp [hs]
  all_goals try clear hs
  · rintro rfl; omega
  · have hlen : l.length = r.length := by omega
    refine DT_loop (ι := { k : Nat // k ≤ l.length ∧ ∀ j, j < k → l[j]? = r[j]? }) (fun p => ⟨32, [(2, .one (.ptr 0 0)), (3, .one (.ptr 1 0)), (5, iv (p.1 : Int))], [.row [.im (.sl (l.map encIssue))], .row [.im (.sl (r.map encIssue))]]⟩) (fun p => l.length - p.1) ⟨0, by simp⟩ (Weak.of_keep [2,3,5] (by simp [iv])) ?_
    rintro ⟨k, hk, hno⟩
    simp only [iv]
    by_cases hlt : k < l.length
    · have hx : l[k]? = some l[k] := by simp [hlt]
      have hltr : k < r.length := by omega
      have hy : r[k]? = some r[k] := by simp [hltr]
      have hw : IntKind.i64.wrap ((k : Int) + 1) = ((k + 1 : Nat) : Int) := i64w (by omega) (by omega)
      have hb := hl2 l[k] (by simp)
      have hc := fun objs => sameIssue_c (G := G) l[k] r[k] ⟨by omega, by omega⟩ objs
      simp only [issv_eq] at hc
      have hs : True := trivial
      repeat' first | (with_reducible first | refine q01 ?_ | refine q02 ?_ | refine q03 ?_ | refine q04 ?_ | refine q05 ?_ | refine q06 ?_ | refine q11 ?_ | refine q12 ?_ | refine q14 ?_ | refine q16 ?_ | refine q17 ?_) | (with_reducible refine At.fn_ret (by simp -dsimp [hx, hy, encIssue, rI, hw, bv, hs]; exact rfl) ?_) | (refine QCall_pure hc ?_; try simp -dsimp [hx, hy, encIssue, rI, hw, bv, hs]) | (refine DT_regionM (id := 6) (nt := 32) 12 [0, 1, 2, 3, 4, 5, 12, 17, 31] mixed rfl (by kernel_rfl) ?_; simp -dsimp [hx, hy, encIssue, rI, hw, bv, hs]) | (with_reducible refine DT_regionE [0, 1, 2, 3, 4, 5, 12, 17, 31] ?_; simp -dsimp [hx, hy, encIssue, rI, hw, bv, hs]) | (refine DT_cond rfl (fun h => ?_) (fun h => ?_) <;> (try simp only [nrm] at h) <;> (try exact Bool.noConfusion h))
      all_goals try simp -dsimp [hx, hy, encIssue, rI, hw, bv, hs]
      all_goals try clear hs
      all_goals try omega
      · rename_i h
        rintro rfl; simp at h
      · rename_i h
        refine At.round ⟨k + 1, by omega, fun j hj => ?_⟩ (by simp; omega) (Weak.of_keep [2,3,5] (by simp))
        by_cases e : j = k
        · subst e; rw [hx, hy, h]
        · exact hno j (by omega)
    · have hs : True := trivial
      repeat' first | (with_reducible first | refine q01 ?_ | refine q03 ?_ | refine q06 ?_ | refine q11 ?_ | refine q16 ?_ | refine q17 ?_) | (with_reducible refine At.fn_ret (by simp -dsimp [hlt, hs]; exact rfl) ?_) | (with_reducible refine DT_regionE [0, 1, 2, 3, 4, 5, 12, 17, 31] ?_; simp -dsimp [hlt, hs]) | (refine DT_cond rfl (fun h => ?_) (fun h => ?_) <;> (try simp only [nrm] at h) <;> (try exact Bool.noConfusion h))
      all_goals try simp -dsimp [hlt, hs]
      all_goals try clear hs
      refine List.ext_getElem? fun j => ?_
      by_cases hj : j < k
      · exact hno j hj
      · rw [List.getElem?_eq_none (by omega), List.getElem?_eq_none (by omega)]
end Go.Proofs
namespace Go.Proofs
open Go Go.Ab
attribute [local simp] dslice setLp
set_option linter.unusedSimpArgs false
variable {G : Nat → Option (List IC)}
def zIssue : Issue := ⟨0, 0, 0, [], []⟩
def findI (l : List Issue) (d lt : Int) : Option Issue := l.find? fun x => x.drawing == d && x.letter == lt
def refv (d lt : Int) : DV := .agg [.im (rI d), .im (rI lt)]
attribute [simp] refv
theorem find_c (l : List Issue) (d lt : Int) (hl : l.length < 1000000) (objs : List DObj) : DCall Tryz.prog G 143 [regv l, refv d lt] objs (fun r objs' => r = .tup [issv ((findI l d lt).getD zIssue), bv (findI l d lt).isSome] ∧ objs' = objs) := by
  refine DCall.frame ?_ (by simp) (by simp) objs
  refine DCall_intro Tryz.func143 rfl Tryz.ntmps143 (by simp) rfl ?_
  simp only [regv, refv, bv, issv]
  have hs : True := trivial
  repeat' first | (with_reducible first | refine q01 ?_ | refine q11 ?_ | refine q12 ?_) | (with_reducible refine DT_regionE [0, 1, 2, 3, 4, 5, 6, 7, 12, 31] ?_; simp -dsimp [hs])
  all_goals try simp -dsimp [hs]
  all_goals try clear hs
  refine DT_loop (ι := { k : Nat // k ≤ l.length ∧ findI l d lt = findI (l.drop k) d lt }) (fun p => ⟨34, [(2, .one (.ptr 0 0)), (3, .one (.ptr 1 0)), (4, .one (.ptr 4 0)), (6, iv (p.1 : Int))], [.row [.im (.sl (l.map encIssue))], .row [.im (rI d), .im (rI lt)], .vec 0 [] 0 true, .vec 0 [] 0 true, .row ((rI 0 :: rI 0 :: [IC.raw (.int .u8 0)]).map .im ++ [.vec 2 0 0 0, .vec 3 0 0 0])]⟩) (fun p => l.length - p.1) ⟨0, by simp⟩ (Weak.of_keep [2,3,4,6] (by simp [iv, rI])) ?_
  rintro ⟨k, hk, hno⟩
  simp only [iv]
  by_cases hlt : k < l.length
  · have hx : l[k]? = some l[k] := by simp [hlt]
    have hw : IntKind.i64.wrap ((k : Int) + 1) = ((k + 1 : Nat) : Int) := i64w (by omega) (by omega)
    have hcons : findI l d lt = if (l[k].drawing == d && l[k].letter == lt) = true then some l[k] else findI (l.drop (k + 1)) d lt := by
      rw [hno, List.drop_eq_getElem_cons hlt]
      simp only [findI, List.find?_cons]
      split <;> simp_all
    have hs : True := trivial
    repeat' first | (with_reducible first | refine q01 ?_ | refine q02 ?_ | refine q03 ?_ | refine q04 ?_ | refine q05 ?_ | refine q06 ?_ | refine q11 ?_ | refine q12 ?_ | refine q14 ?_ | refine q16 ?_ | refine q17 ?_) | (with_reducible refine At.fn_ret (by simp -dsimp [hx, encIssue, rI, hw, hs]; exact rfl) ?_) | (with_reducible refine DT_regionE [0, 1, 2, 3, 4, 5, 6, 7, 12, 31] ?_; simp -dsimp [hx, encIssue, rI, hw, hs]) | (refine DT_cond rfl (fun h => ?_) (fun h => ?_) <;> (try simp only [nrm] at h) <;> (try exact Bool.noConfusion h)) | (with_reducible refine GStop_split ?_ ?_ <;> intro h <;> have h0 := h <;> (try simp only [nrm] at h) <;> (try exact Bool.noConfusion h) <;> have h2 := h <;> (try simp at h2) <;> (replace hs := And.intro h0 (And.intro h (And.intro h2 hs))) <;> simp -dsimp [h0, h, h2, hx, encIssue, rI, hw, hs])
    all_goals try simp -dsimp [hx, encIssue, rI, hw, hs]
    all_goals try clear hs
    all_goals try omega
    · have hf : findI l d lt = some l[k] := by simp_all
      simp [hf, *]
    · rename_i h
      have hf : findI l d lt = findI (l.drop (k + 1)) d lt := by rw [hcons]; simp [h]
      exact At.round ⟨k + 1, by omega, hf⟩ (by simp; omega) (Weak.of_drop [2,3,4,6] 5 (by simp) (by simp) (by simp [rI]))
    · rename_i h2 h
      have hf : findI l d lt = findI (l.drop (k + 1)) d lt := by rw [hcons]; simp [h2]
      exact At.round ⟨k + 1, by omega, hf⟩ (by simp; omega) (Weak.of_drop [2,3,4,6] 5 (by simp) (by simp) (by simp [rI]))
  · have hf : findI l d lt = none := by rw [hno, List.drop_eq_nil_of_le (by omega)]; rfl
    have hs : True := trivial
    repeat' first | (with_reducible first | refine q01 ?_ | refine q03 ?_ | refine q06 ?_ | refine q11 ?_ | refine q16 ?_ | refine q17 ?_) | (with_reducible refine At.fn_ret (by simp -dsimp [hlt, encIssue, rI, hs]; exact rfl) ?_) | (with_reducible refine DT_regionE [0, 1, 2, 3, 4, 5, 6, 7, 12, 31] ?_; simp -dsimp [hlt, encIssue, rI, hs]) | (refine DT_cond rfl (fun h => ?_) (fun h => ?_) <;> (try simp only [nrm] at h) <;> (try exact Bool.noConfusion h))
    all_goals try simp -dsimp [hlt, encIssue, rI, hs]
    all_goals try clear hs
    all_goals simp [hf, zIssue]
end Go.Proofs
namespace Go.Proofs
open Go Go.Ab
attribute [local simp] dslice setLp
set_option linter.unusedSimpArgs false
variable {G : Nat → Option (List IC)}
def fidx {α : Type} (p : α → Bool) (l : List α) : Int := match l.findIdx? p with | some i => i | none => -1
theorem fidx_yes {α : Type} {p : α → Bool} {l : List α} {i : Nat} {x : α} (h : l[i]? = some x) (hp : p x = true) (hno : ∀ (j : Nat) (x : α), j < i → l[j]? = some x → p x = false) : fidx p l = i := by
  have : l.findIdx? p = some i := by
    rw [List.findIdx?_eq_some_iff_getElem]
    obtain ⟨hlt, he⟩ := List.getElem?_eq_some_iff.1 h
    refine ⟨hlt, by rw [he]; exact hp, fun j hj => ?_⟩
    have := hno j l[j] hj (by simp)
    simp [this]
  simp [fidx, this]
theorem fidx_no {α : Type} {p : α → Bool} {l : List α} (hno : ∀ (j : Nat) (x : α), l[j]? = some x → p x = false) : fidx p l = -1 := by
  have : l.findIdx? p = none := by
    rw [List.findIdx?_eq_none_iff]
    intro y hy
    obtain ⟨j, hj⟩ := List.mem_iff_getElem?.1 hy
    exact hno j y hj
  simp [fidx, this]
theorem fidx_nonneg {α : Type} (p : α → Bool) (l : List α) : decide (0 ≤ fidx p l) = l.any p := by
  unfold fidx
  split
  · rename_i i h
    rw [List.findIdx?_eq_some_iff_getElem] at h
    obtain ⟨hlt, hp, _⟩ := h
    have : l.any p = true := List.any_eq_true.2 ⟨l[i], by simp, hp⟩
    simp [this]
  · rename_i h
    rw [List.findIdx?_eq_none_iff] at h
    have : l.any p = false := by rw [List.any_eq_false]; intro x hx; simp [h x hx]
    simp [this]
def itmv (x : Itm) : DV := .agg ((encItem x).map .im)
def dimv (x : Dim) : DV := .agg ((encDim x).map .im)
attribute [simp] itmv dimv
theorem indexFunc_int (l : List Int) (p : Int → Bool) (k : Nat) (caps : List DC) (objs : List DObj) (hok : CallOk Tryz.prog k) (hf : ∀ x ∈ l, DCall Tryz.prog G k (iv x :: caps.map .one) objs (fun d o => d = bv (p x) ∧ o = objs)) (hl : l.length < 1000000) : DCall Tryz.prog G 142 [.one (.im (.sl (l.map encI))), .one (.fn (.func k) caps)] objs (fun d o => d = iv (fidx p l) ∧ o = objs) := by
  refine DCall_intro Tryz.func142 rfl Tryz.ntmps142 (by simp) rfl ?_
  have hs : True := trivial
  repeat' first | (with_reducible first | refine q01 ?_ | refine q11 ?_ | refine q12 ?_) | (with_reducible refine DT_regionE [0, 1, 4, 5, 7, 8, 9, 16] ?_; simp -dsimp [hs])
  all_goals try simp -dsimp [hs]
  all_goals try clear hs
  refine DT_loop (ι := { k : Nat // k ≤ l.length ∧ ∀ j x, j < k → l[j]? = some x → p x = false }) (fun i => ⟨19, [(0, .one (.im (.sl (l.map encI)))), (1, .one (.fn (.func k) caps)), (7, iv (l.length : Int)), (8, iv (i.1 : Int))], objs⟩) (fun i => l.length - i.1) ⟨0, by simp⟩ (Weak.of_keep [0,1,7,8] (by simp)) ?_
  rintro ⟨i, hi, hno⟩
  simp only [iv]
  by_cases hlt : i < l.length
  · have hx : l[i]? = some l[i] := by simp [hlt]
    have hw : IntKind.i64.wrap ((i : Int) + 1) = ((i + 1 : Nat) : Int) := i64w (by omega) (by omega)
    have hc := hf l[i] (by simp)
    simp only [iv, encI, List.map_cons, List.map_nil, bv, rI] at hc
    have hs : True := trivial
    repeat' first | (with_reducible first | refine q01 ?_ | refine q02 ?_ | refine q03 ?_ | refine q04 ?_ | refine q05 ?_ | refine q06 ?_ | refine q11 ?_ | refine q12 ?_ | refine q14 ?_ | refine q16 ?_ | refine q17 ?_ | refine And.intro (by omega) ?_) | (with_reducible refine At.fn_ret (by simp -dsimp [hx, hw, hok, hs]; exact rfl) ?_) | (refine CallE.here hc ?_; try simp -dsimp [hx, hw, hok, hs]) | (with_reducible refine DT_regionE [0, 1, 4, 5, 7, 8, 9, 16] ?_; simp -dsimp [hx, hw, hok, hs]) | (refine DT_cond rfl (fun h => ?_) (fun h => ?_) <;> (try simp only [nrm] at h) <;> (try exact Bool.noConfusion h)) | with_reducible refine And.intro ?_ ?_
    all_goals try simp -dsimp [hx, hw, hok, hs]
    all_goals try clear hs
    all_goals try omega
    · exact (fidx_yes hx (by assumption) hno).symm
    · exact At.round ⟨i + 1, by omega, fun j x hj hjx => by
        by_cases e : j = i
        · subst e; rw [hx] at hjx; cases hjx; assumption
        · exact hno j x (by omega) hjx⟩ (by simp; omega) (Weak.of_keep [0,1,7,8] (by simp))
  · have hs : True := trivial
    repeat' first | (with_reducible first | refine q01 ?_ | refine q03 ?_ | refine q06 ?_ | refine q11 ?_ | refine q12 ?_ | refine q14 ?_ | refine q16 ?_ | refine q17 ?_) | (with_reducible refine At.fn_ret (by simp -dsimp [hs]; exact rfl) ?_) | (with_reducible refine DT_regionE [0, 1, 4, 5, 7, 8, 9, 16] ?_; simp -dsimp [hs]) | (refine DT_cond rfl (fun h => ?_) (fun h => ?_) <;> (try simp only [nrm] at h) <;> (try exact Bool.noConfusion h)) | with_reducible refine And.intro ?_ ?_
    all_goals try simp -dsimp [hs]
    all_goals try clear hs
    all_goals try omega
    exact (fidx_no fun j x hjx => hno j x (by have := lt_of_getElem? hjx; omega) hjx).symm
theorem containsFunc_int (l : List Int) (p : Int → Bool) (k : Nat) (caps : List DC) (objs : List DObj) (hok : CallOk Tryz.prog k) (hf : ∀ x ∈ l, DCall Tryz.prog G k (iv x :: caps.map .one) objs (fun d o => d = bv (p x) ∧ o = objs)) (hl : l.length < 1000000) : DCall Tryz.prog G 109 [.one (.im (.sl (l.map encI))), .one (.fn (.func k) caps)] objs (fun d o => d = bv (l.any p) ∧ o = objs) := by
  refine DCall_intro Tryz.func109 rfl Tryz.ntmps109 (by simp) rfl ?_
  have hc := indexFunc_int l p k caps objs hok hf hl
  have hs : True := trivial
  repeat' first | (with_reducible first | refine q01 ?_ | refine q11 ?_ | refine q17 ?_) | (with_reducible refine At.fn_ret (by simp -dsimp [hs]; exact rfl) ?_) | (refine CallE.here hc ?_; try simp -dsimp [hs]) | (with_reducible refine DT_regionE [0, 1, 4] ?_; simp -dsimp [hs]) | with_reducible refine And.intro ?_ ?_
  all_goals try simp -dsimp [hs]
  all_goals try clear hs
  simp [fidx_nonneg]
theorem indexFunc_itm (l : List Itm) (p : Itm → Bool) (k : Nat) (caps : List DC) (objs : List DObj) (hok : CallOk Tryz.prog k) (hf : ∀ x ∈ l, DCall Tryz.prog G k (itmv x :: caps.map .one) objs (fun d o => d = bv (p x) ∧ o = objs)) (hl : l.length < 1000000) : DCall Tryz.prog G 170 [.one (.im (.sl (l.map encItem))), .one (.fn (.func k) caps)] objs (fun d o => d = iv (fidx p l) ∧ o = objs) := by
  refine DCall_intro Tryz.func170 rfl Tryz.ntmps170 (by simp) rfl ?_
  have hs : True := trivial
  repeat' first | (with_reducible first | refine q01 ?_ | refine q11 ?_ | refine q12 ?_) | (with_reducible refine DT_regionE [0, 1, 4, 5, 7, 8, 9, 16] ?_; simp -dsimp [hs])
  all_goals try simp -dsimp [hs]
  all_goals try clear hs
  refine DT_loop (ι := { k : Nat // k ≤ l.length ∧ ∀ j x, j < k → l[j]? = some x → p x = false }) (fun i => ⟨19, [(0, .one (.im (.sl (l.map encItem)))), (1, .one (.fn (.func k) caps)), (7, iv (l.length : Int)), (8, iv (i.1 : Int))], objs⟩) (fun i => l.length - i.1) ⟨0, by simp⟩ (Weak.of_keep [0,1,7,8] (by simp)) ?_
  rintro ⟨i, hi, hno⟩
  simp only [iv]
  by_cases hlt : i < l.length
  · have hx : l[i]? = some l[i] := by simp [hlt]
    have hw : IntKind.i64.wrap ((i : Int) + 1) = ((i + 1 : Nat) : Int) := i64w (by omega) (by omega)
    have hc := hf l[i] (by simp)
    simp only [itmv, encItem, List.map_cons, List.map_nil, bv, rI] at hc
    have hs : True := trivial
    repeat' first | (with_reducible first | refine q01 ?_ | refine q02 ?_ | refine q03 ?_ | refine q04 ?_ | refine q05 ?_ | refine q06 ?_ | refine q11 ?_ | refine q12 ?_ | refine q14 ?_ | refine q16 ?_ | refine q17 ?_ | refine And.intro (by omega) ?_) | (with_reducible refine At.fn_ret (by simp -dsimp [hx, hw, hok, hs]; exact rfl) ?_) | (refine CallE.here hc ?_; try simp -dsimp [hx, hw, hok, hs]) | (with_reducible refine DT_regionE [0, 1, 4, 5, 7, 8, 9, 16] ?_; simp -dsimp [hx, hw, hok, hs]) | (refine DT_cond rfl (fun h => ?_) (fun h => ?_) <;> (try simp only [nrm] at h) <;> (try exact Bool.noConfusion h)) | with_reducible refine And.intro ?_ ?_
    all_goals try simp -dsimp [hx, hw, hok, hs]
    all_goals try clear hs
    all_goals try omega
    · exact (fidx_yes hx (by assumption) hno).symm
    · exact At.round ⟨i + 1, by omega, fun j x hj hjx => by
        by_cases e : j = i
        · subst e; rw [hx] at hjx; cases hjx; assumption
        · exact hno j x (by omega) hjx⟩ (by simp; omega) (Weak.of_keep [0,1,7,8] (by simp))
  · have hs : True := trivial
    repeat' first | (with_reducible first | refine q01 ?_ | refine q03 ?_ | refine q06 ?_ | refine q11 ?_ | refine q12 ?_ | refine q14 ?_ | refine q16 ?_ | refine q17 ?_) | (with_reducible refine At.fn_ret (by simp -dsimp [hs]; exact rfl) ?_) | (with_reducible refine DT_regionE [0, 1, 4, 5, 7, 8, 9, 16] ?_; simp -dsimp [hs]) | (refine DT_cond rfl (fun h => ?_) (fun h => ?_) <;> (try simp only [nrm] at h) <;> (try exact Bool.noConfusion h)) | with_reducible refine And.intro ?_ ?_
    all_goals try simp -dsimp [hs]
    all_goals try clear hs
    all_goals try omega
    exact (fidx_no fun j x hjx => hno j x (by have := lt_of_getElem? hjx; omega) hjx).symm
theorem containsFunc_itm (l : List Itm) (p : Itm → Bool) (k : Nat) (caps : List DC) (objs : List DObj) (hok : CallOk Tryz.prog k) (hf : ∀ x ∈ l, DCall Tryz.prog G k (itmv x :: caps.map .one) objs (fun d o => d = bv (p x) ∧ o = objs)) (hl : l.length < 1000000) : DCall Tryz.prog G 145 [.one (.im (.sl (l.map encItem))), .one (.fn (.func k) caps)] objs (fun d o => d = bv (l.any p) ∧ o = objs) := by
  refine DCall_intro Tryz.func145 rfl Tryz.ntmps145 (by simp) rfl ?_
  have hc := indexFunc_itm l p k caps objs hok hf hl
  have hs : True := trivial
  repeat' first | (with_reducible first | refine q01 ?_ | refine q11 ?_ | refine q17 ?_) | (with_reducible refine At.fn_ret (by simp -dsimp [hs]; exact rfl) ?_) | (refine CallE.here hc ?_; try simp -dsimp [hs]) | (with_reducible refine DT_regionE [0, 1, 4] ?_; simp -dsimp [hs]) | with_reducible refine And.intro ?_ ?_
  all_goals try simp -dsimp [hs]
  all_goals try clear hs
  simp [fidx_nonneg]
theorem indexFunc_dim (l : List Dim) (p : Dim → Bool) (k : Nat) (caps : List DC) (objs : List DObj) (hok : CallOk Tryz.prog k) (hf : ∀ x ∈ l, DCall Tryz.prog G k (dimv x :: caps.map .one) objs (fun d o => d = bv (p x) ∧ o = objs)) (hl : l.length < 1000000) : DCall Tryz.prog G 223 [.one (.im (.sl (l.map encDim))), .one (.fn (.func k) caps)] objs (fun d o => d = iv (fidx p l) ∧ o = objs) := by
  refine DCall_intro Tryz.func223 rfl Tryz.ntmps223 (by simp) rfl ?_
  have hs : True := trivial
  repeat' first | (with_reducible first | refine q01 ?_ | refine q11 ?_ | refine q12 ?_) | (with_reducible refine DT_regionE [0, 1, 4, 5, 7, 8, 9, 16] ?_; simp -dsimp [hs])
  all_goals try simp -dsimp [hs]
  all_goals try clear hs
  refine DT_loop (ι := { k : Nat // k ≤ l.length ∧ ∀ j x, j < k → l[j]? = some x → p x = false }) (fun i => ⟨19, [(0, .one (.im (.sl (l.map encDim)))), (1, .one (.fn (.func k) caps)), (7, iv (l.length : Int)), (8, iv (i.1 : Int))], objs⟩) (fun i => l.length - i.1) ⟨0, by simp⟩ (Weak.of_keep [0,1,7,8] (by simp)) ?_
  rintro ⟨i, hi, hno⟩
  simp only [iv]
  by_cases hlt : i < l.length
  · have hx : l[i]? = some l[i] := by simp [hlt]
    have hw : IntKind.i64.wrap ((i : Int) + 1) = ((i + 1 : Nat) : Int) := i64w (by omega) (by omega)
    have hc := hf l[i] (by simp)
    simp only [dimv, encDim, List.map_cons, List.map_nil, bv, rI] at hc
    have hs : True := trivial
    repeat' first | (with_reducible first | refine q01 ?_ | refine q02 ?_ | refine q03 ?_ | refine q04 ?_ | refine q05 ?_ | refine q06 ?_ | refine q11 ?_ | refine q12 ?_ | refine q14 ?_ | refine q16 ?_ | refine q17 ?_ | refine And.intro (by omega) ?_) | (with_reducible refine At.fn_ret (by simp -dsimp [hx, hw, hok, hs]; exact rfl) ?_) | (refine CallE.here hc ?_; try simp -dsimp [hx, hw, hok, hs]) | (with_reducible refine DT_regionE [0, 1, 4, 5, 7, 8, 9, 16] ?_; simp -dsimp [hx, hw, hok, hs]) | (refine DT_cond rfl (fun h => ?_) (fun h => ?_) <;> (try simp only [nrm] at h) <;> (try exact Bool.noConfusion h)) | with_reducible refine And.intro ?_ ?_
    all_goals try simp -dsimp [hx, hw, hok, hs]
    all_goals try clear hs
    all_goals try omega
    · exact (fidx_yes hx (by assumption) hno).symm
    · exact At.round ⟨i + 1, by omega, fun j x hj hjx => by
        by_cases e : j = i
        · subst e; rw [hx] at hjx; cases hjx; assumption
        · exact hno j x (by omega) hjx⟩ (by simp; omega) (Weak.of_keep [0,1,7,8] (by simp))
  · have hs : True := trivial
    repeat' first | (with_reducible first | refine q01 ?_ | refine q03 ?_ | refine q06 ?_ | refine q11 ?_ | refine q12 ?_ | refine q14 ?_ | refine q16 ?_ | refine q17 ?_) | (with_reducible refine At.fn_ret (by simp -dsimp [hs]; exact rfl) ?_) | (with_reducible refine DT_regionE [0, 1, 4, 5, 7, 8, 9, 16] ?_; simp -dsimp [hs]) | (refine DT_cond rfl (fun h => ?_) (fun h => ?_) <;> (try simp only [nrm] at h) <;> (try exact Bool.noConfusion h)) | with_reducible refine And.intro ?_ ?_
    all_goals try simp -dsimp [hs]
    all_goals try clear hs
    all_goals try omega
    exact (fidx_no fun j x hjx => hno j x (by have := lt_of_getElem? hjx; omega) hjx).symm
theorem containsFunc_dim (l : List Dim) (p : Dim → Bool) (k : Nat) (caps : List DC) (objs : List DObj) (hok : CallOk Tryz.prog k) (hf : ∀ x ∈ l, DCall Tryz.prog G k (dimv x :: caps.map .one) objs (fun d o => d = bv (p x) ∧ o = objs)) (hl : l.length < 1000000) : DCall Tryz.prog G 220 [.one (.im (.sl (l.map encDim))), .one (.fn (.func k) caps)] objs (fun d o => d = bv (l.any p) ∧ o = objs) := by
  refine DCall_intro Tryz.func220 rfl Tryz.ntmps220 (by simp) rfl ?_
  have hc := indexFunc_dim l p k caps objs hok hf hl
  have hs : True := trivial
  repeat' first | (with_reducible first | refine q01 ?_ | refine q11 ?_ | refine q17 ?_) | (with_reducible refine At.fn_ret (by simp -dsimp [hs]; exact rfl) ?_) | (refine CallE.here hc ?_; try simp -dsimp [hs]) | (with_reducible refine DT_regionE [0, 1, 4] ?_; simp -dsimp [hs]) | with_reducible refine And.intro ?_ ?_
  all_goals try simp -dsimp [hs]
  all_goals try clear hs
  simp [fidx_nonneg]
theorem clone_itm (l : List Itm) (hl : l.length < 1000000) (objs : List DObj) : DCall Tryz.prog G 67 [.one (.im (.sl (l.map encItem)))] objs (fun d objs' => d = .one (.im (.sl (l.map encItem))) ∧ objs' = objs) := by
  refine DCall.frame ?_ (by simp) (by simp) objs
  refine DCall_intro Tryz.func67 rfl Tryz.ntmps67 (by simp) rfl ?_
  have hs : True := trivial
  repeat' first | (with_reducible first | refine q01 ?_ | refine q02 ?_ | refine q11 ?_ | refine q14 ?_ | refine q17 ?_ | refine And.intro (by omega) ?_) | (with_reducible refine At.fn_ret (by simp -dsimp [hs]; exact rfl) ?_) | (with_reducible refine DT_regionE [0, 2, 4] ?_; simp -dsimp [hs]) | (refine DT_cond rfl (fun h => ?_) (fun h => ?_) <;> (try simp only [nrm] at h) <;> (try exact Bool.noConfusion h)) | (with_reducible refine imp_At (fun h => ?_); (try simp only [List.map_eq_nil_iff] at h); (try subst h); try simp -dsimp [hs]) | with_reducible refine And.intro ?_ ?_
  all_goals try simp -dsimp [hs]
  all_goals try clear hs
  all_goals omega
theorem clone_dim (l : List Dim) (hl : l.length < 1000000) (objs : List DObj) : DCall Tryz.prog G 68 [.one (.im (.sl (l.map encDim)))] objs (fun d objs' => d = .one (.im (.sl (l.map encDim))) ∧ objs' = objs) := by
  refine DCall.frame ?_ (by simp) (by simp) objs
  refine DCall_intro Tryz.func68 rfl Tryz.ntmps68 (by simp) rfl ?_
  have hs : True := trivial
  repeat' first | (with_reducible first | refine q01 ?_ | refine q02 ?_ | refine q11 ?_ | refine q14 ?_ | refine q17 ?_ | refine And.intro (by omega) ?_) | (with_reducible refine At.fn_ret (by simp -dsimp [hs]; exact rfl) ?_) | (with_reducible refine DT_regionE [0, 2, 4] ?_; simp -dsimp [hs]) | (refine DT_cond rfl (fun h => ?_) (fun h => ?_) <;> (try simp only [nrm] at h) <;> (try exact Bool.noConfusion h)) | (with_reducible refine imp_At (fun h => ?_); (try simp only [List.map_eq_nil_iff] at h); (try subst h); try simp -dsimp [hs]) | with_reducible refine And.intro ?_ ?_
  all_goals try simp -dsimp [hs]
  all_goals try clear hs
  all_goals omega
end Go.Proofs
namespace Go.Proofs
open Go Go.Ab
attribute [local simp] dslice setLp
set_option linter.unusedSimpArgs false
variable {G : Nat → Option (List IC)}
theorem in1_note (x lo hi : Int) : DCall Tryz.prog G 129 (iv x :: [DC.ptr 0 0, DC.ptr 1 0].map .one) [.row [.im (rI lo)], .row [.im (rI hi)]] (fun d o => d = bv (decide (x < lo) || decide (hi < x)) ∧ o = [.row [.im (rI lo)], .row [.im (rI hi)]]) := by
  refine DCall_intro Tryz.func129 rfl Tryz.ntmps129 (by simp) rfl ?_
  simp only [rI]
  have hs : True := trivial
  repeat' first | (with_reducible first | refine q01 ?_ | refine q11 ?_ | refine q17 ?_) | (with_reducible refine At.fn_ret (by simp -dsimp [hs]; exact rfl) ?_) | (with_reducible refine DT_regionE [0, 1, 2, 4] ?_; simp -dsimp [hs]) | (with_reducible refine GStop_split ?_ ?_ <;> intro h <;> have h0 := h <;> (try simp only [nrm] at h) <;> (try exact Bool.noConfusion h) <;> have h2 := h <;> (try simp at h2) <;> (replace hs := And.intro h0 (And.intro h (And.intro h2 hs))) <;> simp -dsimp [h0, h, h2, hs]) | with_reducible refine And.intro ?_ ?_
  all_goals try simp -dsimp [hs]
  all_goals try clear hs
  all_goals simp [*]
theorem in_note (lo hi : Int) (l : List Int) (hl : l.length < 1000000) (objs : List DObj) : DCall Tryz.prog G 98 [iv lo, iv hi, isv l] objs (fun rr objs' => rr = bv (l.all fun x => decide (lo ≤ x) && decide (x ≤ hi)) ∧ objs' = objs) := by
  refine DCall.frame ?_ (by simp) (by simp) objs
  refine DCall_intro Tryz.func98 rfl Tryz.ntmps98 (by simp) rfl ?_
  try simp only [iv, iv, isv]
  have hc := containsFunc_int (G := G) l (fun x => decide (x < lo) || decide (hi < x)) 129 [.ptr 0 0, .ptr 1 0] [.row [.im (rI lo)], .row [.im (rI hi)]] (by simp) (fun x _ => in1_note x lo hi) hl
  simp only [rI] at hc
  have hs : True := trivial
  repeat' first | (with_reducible first | refine q01 ?_ | refine q11 ?_ | refine q17 ?_) | (with_reducible refine At.fn_ret (by simp -dsimp [hs]; exact rfl) ?_) | (refine CallE.here hc ?_; try simp -dsimp [hs]) | (with_reducible refine DT_regionE [0, 1, 2, 3, 4, 6] ?_; simp -dsimp [hs])
  all_goals try simp -dsimp [hs]
  all_goals try clear hs
  rw [Bool.eq_iff_iff]; simp
  exact exists_congr fun x => and_congr_right fun _ => by omega
theorem in1_sheet (x lo hi : Int) : DCall Tryz.prog G 169 (iv x :: [DC.ptr 0 0, DC.ptr 1 0].map .one) [.row [.im (rI lo)], .row [.im (rI hi)]] (fun d o => d = bv (decide (x < lo) || decide (hi < x)) ∧ o = [.row [.im (rI lo)], .row [.im (rI hi)]]) := by
  refine DCall_intro Tryz.func169 rfl Tryz.ntmps169 (by simp) rfl ?_
  simp only [rI]
  have hs : True := trivial
  repeat' first | (with_reducible first | refine q01 ?_ | refine q11 ?_ | refine q17 ?_) | (with_reducible refine At.fn_ret (by simp -dsimp [hs]; exact rfl) ?_) | (with_reducible refine DT_regionE [0, 1, 2, 4] ?_; simp -dsimp [hs]) | (with_reducible refine GStop_split ?_ ?_ <;> intro h <;> have h0 := h <;> (try simp only [nrm] at h) <;> (try exact Bool.noConfusion h) <;> have h2 := h <;> (try simp at h2) <;> (replace hs := And.intro h0 (And.intro h (And.intro h2 hs))) <;> simp -dsimp [h0, h, h2, hs]) | with_reducible refine And.intro ?_ ?_
  all_goals try simp -dsimp [hs]
  all_goals try clear hs
  all_goals simp [*]
theorem in_sheet (lo hi : Int) (l : List Int) (hl : l.length < 1000000) (objs : List DObj) : DCall Tryz.prog G 144 [iv lo, iv hi, isv l] objs (fun rr objs' => rr = bv (l.all fun x => decide (lo ≤ x) && decide (x ≤ hi)) ∧ objs' = objs) := by
  refine DCall.frame ?_ (by simp) (by simp) objs
  refine DCall_intro Tryz.func144 rfl Tryz.ntmps144 (by simp) rfl ?_
  try simp only [iv, iv, isv]
  have hc := containsFunc_int (G := G) l (fun x => decide (x < lo) || decide (hi < x)) 169 [.ptr 0 0, .ptr 1 0] [.row [.im (rI lo)], .row [.im (rI hi)]] (by simp) (fun x _ => in1_sheet x lo hi) hl
  simp only [rI] at hc
  have hs : True := trivial
  repeat' first | (with_reducible first | refine q01 ?_ | refine q11 ?_ | refine q17 ?_) | (with_reducible refine At.fn_ret (by simp -dsimp [hs]; exact rfl) ?_) | (refine CallE.here hc ?_; try simp -dsimp [hs]) | (with_reducible refine DT_regionE [0, 1, 2, 3, 4, 6] ?_; simp -dsimp [hs])
  all_goals try simp -dsimp [hs]
  all_goals try clear hs
  rw [Bool.eq_iff_iff]; simp
  exact exists_congr fun x => and_congr_right fun _ => by omega
theorem in1_size (x lo hi : Int) : DCall Tryz.prog G 225 (iv x :: [DC.ptr 0 0, DC.ptr 1 0].map .one) [.row [.im (rI lo)], .row [.im (rI hi)]] (fun d o => d = bv (decide (x < lo) || decide (hi < x)) ∧ o = [.row [.im (rI lo)], .row [.im (rI hi)]]) := by
  refine DCall_intro Tryz.func225 rfl Tryz.ntmps225 (by simp) rfl ?_
  simp only [rI]
  have hs : True := trivial
  repeat' first | (with_reducible first | refine q01 ?_ | refine q11 ?_ | refine q17 ?_) | (with_reducible refine At.fn_ret (by simp -dsimp [hs]; exact rfl) ?_) | (with_reducible refine DT_regionE [0, 1, 2, 4] ?_; simp -dsimp [hs]) | (with_reducible refine GStop_split ?_ ?_ <;> intro h <;> have h0 := h <;> (try simp only [nrm] at h) <;> (try exact Bool.noConfusion h) <;> have h2 := h <;> (try simp at h2) <;> (replace hs := And.intro h0 (And.intro h (And.intro h2 hs))) <;> simp -dsimp [h0, h, h2, hs]) | with_reducible refine And.intro ?_ ?_
  all_goals try simp -dsimp [hs]
  all_goals try clear hs
  all_goals simp [*]
theorem in_size (lo hi : Int) (l : List Int) (hl : l.length < 1000000) (objs : List DObj) : DCall Tryz.prog G 224 [iv lo, iv hi, isv l] objs (fun rr objs' => rr = bv (l.all fun x => decide (lo ≤ x) && decide (x ≤ hi)) ∧ objs' = objs) := by
  refine DCall.frame ?_ (by simp) (by simp) objs
  refine DCall_intro Tryz.func224 rfl Tryz.ntmps224 (by simp) rfl ?_
  try simp only [iv, iv, isv]
  have hc := containsFunc_int (G := G) l (fun x => decide (x < lo) || decide (hi < x)) 225 [.ptr 0 0, .ptr 1 0] [.row [.im (rI lo)], .row [.im (rI hi)]] (by simp) (fun x _ => in1_size x lo hi) hl
  simp only [rI] at hc
  have hs : True := trivial
  repeat' first | (with_reducible first | refine q01 ?_ | refine q11 ?_ | refine q17 ?_) | (with_reducible refine At.fn_ret (by simp -dsimp [hs]; exact rfl) ?_) | (refine CallE.here hc ?_; try simp -dsimp [hs]) | (with_reducible refine DT_regionE [0, 1, 2, 3, 4, 6] ?_; simp -dsimp [hs])
  all_goals try simp -dsimp [hs]
  all_goals try clear hs
  rw [Bool.eq_iff_iff]; simp
  exact exists_congr fun x => and_congr_right fun _ => by omega
def dimOk (d : Dim) : Bool := decide (0 ≤ d.nominal) && decide (d.nominal ≤ 1000000000) && (decide (0 ≤ d.lower) && decide (d.lower ≤ 1000000000)) && (decide (0 ≤ d.upper) && decide (d.upper ≤ 1000000000)) && decide (d.lower ≤ d.upper)
theorem sizeCheck_c (d : Dim) (objs : List DObj) : DCall Tryz.prog G 222 [dimv d] objs (fun rr objs' => rr = iv (if dimOk d then 0 else 10) ∧ objs' = objs) := by
  refine DCall.frame ?_ (by simp) (by simp) objs
  refine DCall_intro Tryz.func222 rfl Tryz.ntmps222 (by simp) rfl ?_
  try simp only [dimv]
  have hc := in_size (G := G) 0 1000000000 [d.nominal, d.lower, d.upper] (by simp)
  have hs : True := trivial
  repeat' first | (with_reducible first | refine q01 ?_ | refine q02 ?_ | refine q11 ?_ | refine q14 ?_ | refine q17 ?_) | (with_reducible refine At.fn_ret (by simp -dsimp [hs]; exact rfl) ?_) | (refine CallE.thaw (hc) ?_ ?_ ?_; (focus (simp; done)); (focus (simp; done)); try simp -dsimp [hs]) | (with_reducible refine DT_regionE [0, 1, 2, 18] ?_; simp -dsimp [hs]) | (refine DT_cond rfl (fun h => ?_) (fun h => ?_) <;> (try simp only [nrm] at h) <;> (try exact Bool.noConfusion h)) | (with_reducible refine GStop_split ?_ ?_ <;> intro h <;> have h0 := h <;> (try simp only [nrm] at h) <;> (try exact Bool.noConfusion h) <;> have h2 := h <;> (try simp at h2) <;> (replace hs := And.intro h0 (And.intro h (And.intro h2 hs))) <;> simp -dsimp [h0, h, h2, hs])
  all_goals try simp -dsimp [hs]
  all_goals try clear hs
  all_goals simp_all [dimOk]
  all_goals omega
def refI (x : Issue) : DV := refv x.drawing x.letter
attribute [simp] refI
theorem sheetName_c (x : Issue) (objs : List DObj) : DCall Tryz.prog G 150 [issv x] objs (fun rr objs' => rr = refI x ∧ objs' = objs) := by
  refine DCall.frame ?_ (by simp) (by simp) objs
  refine DCall_intro Tryz.func150 rfl Tryz.ntmps150 (by simp) rfl ?_
  try simp only [issv]
  have hs : True := trivial
  repeat' first | (with_reducible first | refine q01 ?_ | refine q11 ?_ | refine q17 ?_) | (with_reducible refine At.fn_ret (by simp -dsimp [hs]; exact rfl) ?_) | (with_reducible refine DT_regionE [0, 1, 2] ?_; simp -dsimp [hs])
  all_goals try simp -dsimp [hs]
  all_goals try clear hs
theorem copied_c (x : Issue) (hi : x.items.length ≤ 16) (hd : x.dims.length ≤ 8) (objs : List DObj) : DCall Tryz.prog G 118 [issv x] objs (fun rr objs' => rr = issv x ∧ objs' = objs) := by
  refine DCall.frame ?_ (by simp) (by simp) objs
  refine DCall_intro Tryz.func118 rfl Tryz.ntmps118 (by simp) rfl ?_
  try simp only [issv]
  have h1 := clone_itm (G := G) x.items (by omega)
  have h2 := clone_dim (G := G) x.dims (by omega)
  have hs : True := trivial
  repeat' first | (with_reducible first | refine q01 ?_ | refine q11 ?_ | refine q17 ?_) | (with_reducible refine At.fn_ret (by simp -dsimp [hs]; exact rfl) ?_) | (refine QCall_pure (h1) ?_; try simp -dsimp [hs]) | (refine QCall_pure (h2) ?_; try simp -dsimp [hs]) | (refine DT_regionM (id := 1) (nt := 12) 7 [0, 1, 2] mixed rfl (by kernel_rfl) ?_; simp -dsimp [hs]) | (with_reducible refine DT_regionE [0, 1, 2] ?_; simp -dsimp [hs])
  all_goals try simp -dsimp [hs]
  all_goals try clear hs
def ck1 (x : Issue) : Bool := (decide (1 ≤ x.drawing) && decide (x.drawing ≤ 9999)) && (decide (1 ≤ x.letter) && decide (x.letter ≤ 8))
theorem ck1_c (x : Issue) (objs : List DObj) : DCall Tryz.prog G 216 [issv x] objs (fun rr objs' => rr = bv (ck1 x) ∧ objs' = objs) := by
  refine DCall.frame ?_ (by simp) (by simp) objs
  refine DCall_intro Tryz.func216 rfl Tryz.ntmps216 (by simp) rfl ?_
  try simp only [issv]
  have c1 := in_sheet (G := G) 1 9999 [x.drawing] (by simp)
  have c2 := in_sheet (G := G) 1 8 [x.letter] (by simp)
  have hs : True := trivial
  repeat' first | (with_reducible first | refine q01 ?_ | refine q11 ?_ | refine q17 ?_) | (with_reducible refine At.fn_ret (by simp -dsimp [hs]; exact rfl) ?_) | (refine CallE.thaw (c1) ?_ ?_ ?_; (focus (simp; done)); (focus (simp; done)); try simp -dsimp [hs]) | (refine CallE.thaw (c2) ?_ ?_ ?_; (focus (simp; done)); (focus (simp; done)); try simp -dsimp [hs]) | (with_reducible refine DT_regionE [0, 1, 2] ?_; simp -dsimp [hs]) | (with_reducible refine GStop_split ?_ ?_ <;> intro h <;> have h0 := h <;> (try simp only [nrm] at h) <;> (try exact Bool.noConfusion h) <;> have h2 := h <;> (try simp at h2) <;> (replace hs := And.intro h0 (And.intro h (And.intro h2 hs))) <;> simp -dsimp [h0, h, h2, hs])
  all_goals try simp -dsimp [hs]
  all_goals try clear hs
  all_goals simp_all [ck1]
  all_goals omega
def ck2 (x : Issue) : Bool := if x.kind = 1 then (decide (1 ≤ x.items.length) && decide (x.items.length ≤ 8)) && decide (x.dims.length = 0) else (decide (2 ≤ x.kind) && decide (x.kind ≤ 3)) && decide (x.dims.length ≤ 4) && decide (x.items.length = 0)
theorem ck2_c (x : Issue) (hk : 0 ≤ x.kind ∧ x.kind ≤ 255) (objs : List DObj) : DCall Tryz.prog G 217 [issv x] objs (fun rr objs' => rr = bv (ck2 x) ∧ objs' = objs) := by
  refine DCall.frame ?_ (by simp) (by simp) objs
  refine DCall_intro Tryz.func217 rfl Tryz.ntmps217 (by simp) rfl ?_
  try simp only [issv]
  have c1 := in_sheet (G := G) 1 8 [(x.items.length : Int)] (by simp)
  have c2 := in_sheet (G := G) 2 3 [x.kind] (by simp)
  have hw : IntKind.i64.wrap x.kind = x.kind := i64w (by omega) (by omega)
  have hs : True := trivial
  repeat' first | (with_reducible first | refine q01 ?_ | refine q02 ?_ | refine q11 ?_ | refine q14 ?_ | refine q17 ?_) | (with_reducible refine At.fn_ret (by simp -dsimp [hw, hs]; exact rfl) ?_) | (refine CallE.thaw (c1) ?_ ?_ ?_; (focus (simp; done)); (focus (simp; done)); try simp -dsimp [hw, hs]) | (refine CallE.thaw (c2) ?_ ?_ ?_; (focus (simp; done)); (focus (simp; done)); try simp -dsimp [hw, hs]) | (with_reducible refine DT_regionE [0, 1, 2, 5] ?_; simp -dsimp [hw, hs]) | (refine DT_cond rfl (fun h => ?_) (fun h => ?_) <;> (try simp only [nrm] at h) <;> (try exact Bool.noConfusion h)) | (with_reducible refine GStop_split ?_ ?_ <;> intro h <;> have h0 := h <;> (try simp only [nrm] at h) <;> (try exact Bool.noConfusion h) <;> have h2 := h <;> (try simp at h2) <;> (replace hs := And.intro h0 (And.intro h (And.intro h2 hs))) <;> simp -dsimp [h0, h, h2, hw, hs])
  all_goals try simp -dsimp [hw, hs]
  all_goals try clear hs
  all_goals simp_all [ck2]
  all_goals omega
theorem ck41_c (d : Dim) (objs : List DObj) : DCall Tryz.prog G 221 [dimv d] objs (fun rr objs' => rr = bv (!dimOk d) ∧ objs' = objs) := by
  refine DCall.frame ?_ (by simp) (by simp) objs
  refine DCall_intro Tryz.func221 rfl Tryz.ntmps221 (by simp) rfl ?_
  try simp only [dimv]
  have h1 := sizeCheck_c (G := G) d
  cases hd : dimOk d <;> simp only [hd] at h1
  · have hs : True := trivial
    repeat' first | (with_reducible first | refine q01 ?_ | refine q11 ?_ | refine q17 ?_) | (with_reducible refine At.fn_ret (by simp -dsimp [hs]; exact rfl) ?_) | (refine CallE.pure (h1) ?_; try simp -dsimp [hs]) | (with_reducible refine DT_regionE [0, 1, 2] ?_; simp -dsimp [hs])
    all_goals try simp -dsimp [hs]
    all_goals try clear hs
  · have hs : True := trivial
    repeat' first | (with_reducible first | refine q01 ?_ | refine q11 ?_ | refine q17 ?_) | (with_reducible refine At.fn_ret (by simp -dsimp [hs]; exact rfl) ?_) | (refine CallE.pure (h1) ?_; try simp -dsimp [hs]) | (with_reducible refine DT_regionE [0, 1, 2] ?_; simp -dsimp [hs])
    all_goals try simp -dsimp [hs]
    all_goals try clear hs
theorem ck4_c (x : Issue) (hl : x.dims.length < 1000000) (objs : List DObj) : DCall Tryz.prog G 219 [issv x] objs (fun rr objs' => rr = bv (x.dims.all dimOk) ∧ objs' = objs) := by
  refine DCall.frame ?_ (by simp) (by simp) objs
  refine DCall_intro Tryz.func219 rfl Tryz.ntmps219 (by simp) rfl ?_
  try simp only [issv]
  have c1 := fun objs => DCall.fnArg2 (cs := []) (containsFunc_dim (G := G) x.dims (fun d => !dimOk d) 221 [] objs (by simp) (fun d _ => ck41_c d objs) hl)
  have hs : True := trivial
  repeat' first | (with_reducible first | refine q01 ?_ | refine q11 ?_ | refine q17 ?_) | (with_reducible refine At.fn_ret (by simp -dsimp [hs]; exact rfl) ?_) | (refine CallE.pure (c1) ?_; try simp -dsimp [hs]) | (with_reducible refine DT_regionE [0, 1, 2] ?_; simp -dsimp [hs])
  all_goals try simp -dsimp [hs]
  all_goals try clear hs
  rw [Bool.eq_iff_iff]; simp
end Go.Proofs
namespace Go.Proofs
open Go Go.Ab
attribute [local simp] dslice setLp
set_option linter.unusedSimpArgs false
variable {G : Nat → Option (List IC)}
theorem isNaN1_c (x : Int) (objs : List DObj) : DCall Tryz.prog G 163 [iv x] objs (fun rr objs' => rr = bv false ∧ objs' = objs) := by
  refine DCall.frame ?_ (by simp) (by simp) objs
  refine DCall_intro Tryz.func163 rfl Tryz.ntmps163 (by simp) rfl ?_
  try simp only [iv]
  have hs : True := trivial
  repeat' first | (with_reducible first | refine q01 ?_ | refine q11 ?_ | refine q17 ?_) | (with_reducible refine At.fn_ret (by simp -dsimp [hs]; exact rfl) ?_) | (with_reducible refine DT_regionE [0, 2] ?_; simp -dsimp [hs])
  all_goals try simp -dsimp [hs]
  all_goals try clear hs
theorem isNaN2_c (x : Int) (objs : List DObj) : DCall Tryz.prog G 180 [iv x] objs (fun rr objs' => rr = bv false ∧ objs' = objs) := by
  refine DCall.frame ?_ (by simp) (by simp) objs
  refine DCall_intro Tryz.func180 rfl Tryz.ntmps180 (by simp) rfl ?_
  try simp only [iv]
  have hs : True := trivial
  repeat' first | (with_reducible first | refine q01 ?_ | refine q11 ?_ | refine q17 ?_) | (with_reducible refine At.fn_ret (by simp -dsimp [hs]; exact rfl) ?_) | (with_reducible refine DT_regionE [0, 2] ?_; simp -dsimp [hs])
  all_goals try simp -dsimp [hs]
  all_goals try clear hs
theorem less_c (x y : Int) (objs : List DObj) : DCall Tryz.prog G 136 [iv x, iv y] objs (fun rr objs' => rr = bv (decide (x < y)) ∧ objs' = objs) := by
  refine DCall.frame ?_ (by simp) (by simp) objs
  refine DCall_intro Tryz.func136 rfl Tryz.ntmps136 (by simp) rfl ?_
  try simp only [iv, iv]
  have c1 := isNaN1_c (G := G) x
  have c2 := isNaN1_c (G := G) y
  have hs : True := trivial
  repeat' first | (with_reducible first | refine q01 ?_ | refine q11 ?_ | refine q17 ?_) | (with_reducible refine At.fn_ret (by simp -dsimp [hs]; exact rfl) ?_) | (refine CallE.pure (c1) ?_; try simp -dsimp [hs]) | (with_reducible refine DT_regionE [0, 1, 4] ?_; simp -dsimp [hs])
  all_goals try simp -dsimp [hs]
  all_goals try clear hs
  all_goals simp_all
def cmpI (x y : Int) : Int := if x < y then -1 else if y < x then 1 else 0
theorem compare_c (x y : Int) (objs : List DObj) : DCall Tryz.prog G 127 [iv x, iv y] objs (fun rr objs' => rr = iv (cmpI x y) ∧ objs' = objs) := by
  refine DCall.frame ?_ (by simp) (by simp) objs
  refine DCall_intro Tryz.func127 rfl Tryz.ntmps127 (by simp) rfl ?_
  try simp only [iv, iv]
  have c1 := isNaN1_c (G := G) x
  have c2 := isNaN1_c (G := G) y
  have hs : True := trivial
  repeat' first | (with_reducible first | refine q01 ?_ | refine q02 ?_ | refine q11 ?_ | refine q14 ?_ | refine q17 ?_) | (with_reducible refine At.fn_ret (by simp -dsimp [hs]; exact rfl) ?_) | (refine CallE.pure (c1) ?_; try simp -dsimp [hs]) | (refine CallE.pure (c2) ?_; try simp -dsimp [hs]) | (with_reducible refine DT_regionE [0, 1, 4, 5, 6, 11, 12, 13, 16, 19] ?_; simp -dsimp [hs]) | (refine DT_cond rfl (fun h => ?_) (fun h => ?_) <;> (try simp only [nrm] at h) <;> (try exact Bool.noConfusion h))
  all_goals try simp -dsimp [hs]
  all_goals try clear hs
  all_goals simp_all [cmpI]
  all_goals omega
theorem cmpIssue_c (x : Issue) (n : Int) (objs : List DObj) : DCall Tryz.prog G 174 [issv x, iv n] objs (fun rr objs' => rr = iv (cmpI x.drawing n) ∧ objs' = objs) := by
  refine DCall.frame ?_ (by simp) (by simp) objs
  refine DCall_intro Tryz.func174 rfl Tryz.ntmps174 (by simp) rfl ?_
  try simp only [issv, iv]
  have c1 := compare_c (G := G) x.drawing n
  have hs : True := trivial
  repeat' first | (with_reducible first | refine q01 ?_ | refine q11 ?_ | refine q17 ?_) | (with_reducible refine At.fn_ret (by simp -dsimp [hs]; exact rfl) ?_) | (refine CallE.pure (c1) ?_; try simp -dsimp [hs]) | (with_reducible refine DT_regionE [0, 1, 2, 4] ?_; simp -dsimp [hs])
  all_goals try simp -dsimp [hs]
  all_goals try clear hs
end Go.Proofs
namespace Go.Proofs
open Go Go.Ab
attribute [local simp] dslice setLp
set_option linter.unusedSimpArgs false
variable {G : Nat → Option (List IC)}
def itemsOk (d : Int) : Int → List Itm → Bool
  | _, [] => true
  | prev, y :: r => (decide (1 ≤ y.drawing) && decide (y.drawing ≤ 9999)) && (decide (1 ≤ y.count) && decide (y.count ≤ 20)) && !decide (y.drawing = d) && decide (prev < y.drawing) && itemsOk d y.drawing r
def pv (l : List Itm) : Nat → Int
  | 0 => 0
  | k + 1 => ((l[k]?).map (·.drawing)).getD 0
theorem ck3_c (x : Issue) (hl : x.items.length < 1000000) (objs : List DObj) : DCall Tryz.prog G 218 [issv x] objs (fun rr objs' => rr = bv (itemsOk x.drawing 0 x.items) ∧ objs' = objs) := by
  refine DCall.frame ?_ (by simp) (by simp) objs
  refine DCall_intro Tryz.func218 rfl Tryz.ntmps218 (by simp) rfl ?_
  try simp only [issv]
  have hs : True := trivial
  repeat' first | (with_reducible first | refine q01 ?_ | refine q11 ?_ | refine q12 ?_) | (with_reducible refine DT_regionE [0, 1, 2, 3, 4, 6, 7, 8, 9, 47] ?_; simp -dsimp [hs])
  all_goals try simp -dsimp [hs]
  all_goals try clear hs
  refine DT_loop (ι := { k : Nat // k ≤ x.items.length ∧ itemsOk x.drawing 0 x.items = itemsOk x.drawing (pv x.items k) (x.items.drop k) }) (fun p => ⟨49, [(1, .one (.ptr 0 0)), (6, .one (.im (.sl (x.items.map encItem)))), (7, iv (x.items.length : Int)), (8, iv (p.1 : Int))], [.row ((encIssue x).map .im)]⟩) (fun p => x.items.length - p.1) ⟨0, by simp [pv]⟩ (Weak.of_keep [1,6,7,8] (by simp)) ?_
  rintro ⟨k, hk, hno⟩
  simp only [iv, encIssue, rI, List.map_cons, List.map_nil]
  by_cases hlt : k < x.items.length
  · have hx : x.items[k]? = some x.items[k] := by simp [hlt]
    have hw : IntKind.i64.wrap ((k : Int) + 1) = ((k + 1 : Nat) : Int) := i64w (by omega) (by omega)
    have hw2 : IntKind.i64.wrap ((k : Int) - 1) = (k : Int) - 1 := i64w (by omega) (by omega)
    have c1 := in_sheet (G := G) 1 9999 [x.items[k].drawing] (by simp)
    have c2 := in_sheet (G := G) 1 20 [x.items[k].count] (by simp)
    have hcons : itemsOk x.drawing 0 x.items = ((decide (1 ≤ x.items[k].drawing) && decide (x.items[k].drawing ≤ 9999)) && (decide (1 ≤ x.items[k].count) && decide (x.items[k].count ≤ 20)) && !decide (x.items[k].drawing = x.drawing) && decide (pv x.items k < x.items[k].drawing) && itemsOk x.drawing x.items[k].drawing (x.items.drop (k + 1))) := by
      rw [hno, List.drop_eq_getElem_cons hlt, itemsOk]
    have hpv1 : pv x.items (k + 1) = x.items[k].drawing := by simp [pv, hx]
    by_cases hk0 : 0 < k
    · have hkx : x.items[k - 1]? = some x.items[k - 1] := by simp
      have hcast : (k : Int) - 1 = ((k - 1 : Nat) : Int) := by omega
      have hw3 : IntKind.i64.wrap ((k : Int) - 1) = ((k - 1 : Nat) : Int) := by rw [hw2, hcast]
      have hpv0 : pv x.items k = x.items[k - 1].drawing := by
        obtain ⟨j, rfl⟩ : ∃ j, k = j + 1 := ⟨k - 1, by omega⟩
        have : x.items[j]? = some x.items[j] := by simp
        simp [pv, this]
      rw [hpv0] at hcons
      have hs : True := trivial
      repeat' first | (with_reducible first | refine q01 ?_ | refine q02 ?_ | refine q03 ?_ | refine q04 ?_ | refine q05 ?_ | refine q06 ?_ | refine q11 ?_ | refine q12 ?_ | refine q14 ?_ | refine q16 ?_ | refine q17 ?_) | (with_reducible refine At.fn_ret (by simp -dsimp [hx, hw, hw3, hkx, hk0, hs]; exact rfl) ?_) | (refine QCall_pure (c1) ?_; try simp -dsimp [hx, hw, hw3, hkx, hk0, hs]) | (refine QCall_pure (c2) ?_; try simp -dsimp [hx, hw, hw3, hkx, hk0, hs]) | (refine DT_regionM (id := 4) (nt := 49) 35 [0, 1, 2, 3, 4, 6, 7, 8, 9, 47] mixed rfl (by kernel_rfl) ?_; simp -dsimp [hx, hw, hw3, hkx, hk0, hs]) | (with_reducible refine DT_regionE [0, 1, 2, 3, 4, 6, 7, 8, 9, 47] ?_; simp -dsimp [hx, hw, hw3, hkx, hk0, hs]) | (refine DT_cond rfl (fun h => ?_) (fun h => ?_) <;> (try simp only [nrm] at h) <;> (try exact Bool.noConfusion h)) | (with_reducible refine GStop_split ?_ ?_ <;> intro h <;> have h0 := h <;> (try simp only [nrm] at h) <;> (try exact Bool.noConfusion h) <;> have h2 := h <;> (try simp at h2) <;> (replace hs := And.intro h0 (And.intro h (And.intro h2 hs))) <;> simp -dsimp [h0, h, h2, hx, hw, hw3, hkx, hk0, hs])
      all_goals try simp -dsimp [hx, hw, hw3, hkx, hk0, hs]
      all_goals try clear hs
      all_goals try omega
      all_goals first
        | (refine At.round ⟨k + 1, by omega, by clear hno; rw [hcons, hpv1]; clear hcons; simp_all; try omega⟩ (by simp; omega) (Weak.of_drop [1,6,7,8] 1 (by simp) (by simp) (by simp)))
        | (clear hno; rw [hcons]; clear hcons; simp_all; try omega)
    · have hpv0 : pv x.items k = 0 := by
        obtain rfl : k = 0 := by omega
        rfl
      rw [hpv0] at hcons
      have hs : True := trivial
      repeat' first | (with_reducible first | refine q01 ?_ | refine q02 ?_ | refine q03 ?_ | refine q04 ?_ | refine q05 ?_ | refine q06 ?_ | refine q11 ?_ | refine q12 ?_ | refine q14 ?_ | refine q16 ?_ | refine q17 ?_) | (with_reducible refine At.fn_ret (by simp -dsimp [hx, hw, hk0, hs]; exact rfl) ?_) | (refine QCall_pure (c1) ?_; try simp -dsimp [hx, hw, hk0, hs]) | (refine QCall_pure (c2) ?_; try simp -dsimp [hx, hw, hk0, hs]) | (refine DT_regionM (id := 4) (nt := 49) 35 [0, 1, 2, 3, 4, 6, 7, 8, 9, 47] mixed rfl (by kernel_rfl) ?_; simp -dsimp [hx, hw, hk0, hs]) | (with_reducible refine DT_regionE [0, 1, 2, 3, 4, 6, 7, 8, 9, 47] ?_; simp -dsimp [hx, hw, hk0, hs]) | (refine DT_cond rfl (fun h => ?_) (fun h => ?_) <;> (try simp only [nrm] at h) <;> (try exact Bool.noConfusion h)) | (with_reducible refine GStop_split ?_ ?_ <;> intro h <;> have h0 := h <;> (try simp only [nrm] at h) <;> (try exact Bool.noConfusion h) <;> have h2 := h <;> (try simp at h2) <;> (replace hs := And.intro h0 (And.intro h (And.intro h2 hs))) <;> simp -dsimp [h0, h, h2, hx, hw, hk0, hs])
      all_goals try simp -dsimp [hx, hw, hk0, hs]
      all_goals try clear hs
      all_goals try omega
      all_goals first
        | (refine At.round ⟨k + 1, by omega, by clear hno; rw [hcons, hpv1]; clear hcons; simp_all; try omega⟩ (by simp; omega) (Weak.of_drop [1,6,7,8] 1 (by simp) (by simp) (by simp)))
        | (clear hno; rw [hcons]; clear hcons; simp_all; try omega)
  · have hs : True := trivial
    repeat' first | (with_reducible first | refine q01 ?_ | refine q03 ?_ | refine q06 ?_ | refine q11 ?_ | refine q12 ?_ | refine q14 ?_ | refine q16 ?_ | refine q17 ?_) | (with_reducible refine At.fn_ret (by simp -dsimp [hs]; exact rfl) ?_) | (with_reducible refine DT_regionE [0, 1, 2, 3, 4, 6, 7, 8, 9, 47] ?_; simp -dsimp [hs]) | (refine DT_cond rfl (fun h => ?_) (fun h => ?_) <;> (try simp only [nrm] at h) <;> (try exact Bool.noConfusion h))
    all_goals try simp -dsimp [hs]
    all_goals try clear hs
    all_goals try omega
    rw [hno, List.drop_eq_nil_of_le (by omega)]; rfl
end Go.Proofs
namespace Go.Proofs
open Go Go.Ab
attribute [local simp] dslice setLp
set_option linter.unusedSimpArgs false
variable {G : Nat → Option (List IC)}
/-- How many are less. -/
def lb (l : List Int) (x : Int) : Nat := (l.filter fun y => decide (y < x)).length
theorem lb_le (l : List Int) (x : Int) : lb l x ≤ l.length := List.length_filter_le _ _
theorem lb_spec : ∀ {l : List Int} {x : Int}, l.Pairwise (· ≤ ·) → ∀ (i : Nat) (y : Int), l[i]? = some y → (y < x ↔ i < lb l x)
  | [], x, _, i, y, h => by simp at h
  | a :: l, x, hs, i, y, h => by
    simp only [List.pairwise_cons] at hs
    by_cases ha : a < x
    · have e : lb (a :: l) x = lb l x + 1 := by simp [lb, ha]
      rw [e]
      cases i with
      | zero => simp at h; subst h; simp [ha]
      | succ i =>
        have := lb_spec (x := x) hs.2 i y (by simpa using h)
        omega
    · have hall : ∀ z ∈ l, ¬ z < x := fun z hz => by have := hs.1 z hz; omega
      have e : lb (a :: l) x = 0 := by
        have hf : l.filter (fun y => decide (y < x)) = [] := by
          rw [List.filter_eq_nil_iff]; intro z hz; simpa using hall z hz
        simp [lb, ha, hf]
      rw [e]
      cases i with
      | zero => simp at h; subst h; simp [ha]
      | succ i =>
        have := hall y (List.mem_of_getElem? (by simpa using h))
        omega
theorem mem_lb {l : List Int} {x : Int} (hs : l.Pairwise (· ≤ ·)) : x ∈ l ↔ l[lb l x]? = some x := by
  constructor
  · intro h
    obtain ⟨i, hi⟩ := List.mem_iff_getElem?.1 h
    have h1 := lb_spec (x := x) hs i x hi
    have h2 : lb l x ≤ i := by omega
    have hlt := lt_of_getElem? hi
    have h3 : l[lb l x]? = some l[lb l x] := by simp
    have h4 := lb_spec (x := x) hs _ _ h3
    have h5 : l[lb l x] ≤ x := by
      by_cases e : lb l x = i
      · have : l[lb l x]? = some x := by rw [e]; exact hi
        rw [h3] at this; simp at this; omega
      · have := (List.pairwise_iff_getElem.1 hs) (lb l x) i (by omega) hlt (by omega)
        have h6 := (List.getElem?_eq_some_iff.1 hi).2
        omega
    rw [h3]
    congr 1
    omega
  · exact fun h => List.mem_of_getElem? h
theorem pow_u64_1 : (2 : Int) ^ min 1 IntKind.u64.bits = 2 := rfl
attribute [simp] pow_u64_1
theorem u64w {n : Int} (h1 : 0 ≤ n) (h2 : n ≤ 18446744073709551615) : IntKind.u64.wrap n = n := IntWalk.u64_in n ⟨h1, h2⟩
theorem bsearch_c (l : List Int) (x : Int) (hs : l.Pairwise (· ≤ ·)) (hl : l.length < 1000000) (objs : List DObj) : DCall Tryz.prog G 171 [isv l, iv x] objs (fun rr objs' => rr = .tup [iv (lb l x), bv (decide (x ∈ l))] ∧ objs' = objs) := by
  refine DCall.frame ?_ (by simp) (by simp) objs
  refine DCall_intro Tryz.func171 rfl Tryz.ntmps171 (by simp) rfl ?_
  try simp only [isv, iv]
  have hlb := lb_le l x
  have hs : True := trivial
  repeat' first | (with_reducible first | refine q01 ?_ | refine q11 ?_ | refine q12 ?_) | (with_reducible refine DT_regionE [0, 1, 4, 5, 6, 7, 8, 9, 15, 27] ?_; simp -dsimp [hs])
  all_goals try simp -dsimp [hs]
  all_goals try clear hs
  refine DT_loop (ι := { p : Nat × Nat // p.1 ≤ lb l x ∧ lb l x ≤ p.2 ∧ p.2 ≤ l.length }) (fun p => ⟨54, [(0, isv l), (1, iv x), (6, iv (l.length : Int)), (7, iv (p.1.1 : Int)), (8, iv (p.1.2 : Int))], []⟩) (fun p => p.1.2 - p.1.1) ⟨(0, l.length), by simp; omega⟩ (Weak.of_keep [0,1,6,7,8] (by simp)) ?_
  rintro ⟨⟨i, j⟩, h1, h2, h3⟩
  simp only at h1 h2 h3
  simp only [iv, isv]
  have hw1 : IntKind.i64.wrap ((i : Int) + (j : Int)) = (i : Int) + (j : Int) := i64w (by omega) (by omega)
  have hw2 : IntKind.u64.wrap ((i : Int) + (j : Int)) = (i : Int) + (j : Int) := u64w (by omega) (by omega)
  have hd : ((i : Int) + (j : Int)).fdiv 2 = (((i + j) / 2 : Nat) : Int) := by
    rw [Int.fdiv_eq_ediv_of_nonneg _ (by omega)]; omega
  have hw3 : IntKind.i64.wrap ((((i + j) / 2 : Nat) : Int)) = (((i + j) / 2 : Nat) : Int) := i64w (by omega) (by omega)
  have hw4 : IntKind.i64.wrap ((((i + j) / 2 : Nat) : Int) + 1) = (((i + j) / 2 + 1 : Nat) : Int) := i64w (by omega) (by omega)
  by_cases hlt : i < j
  · generalize hm : (i + j) / 2 = m at hd hw3 hw4
    have hx : l[m]? = some l[m] := by simp
    have hsp := lb_spec (x := x) hs m l[m] hx
    have c1 := less_c (G := G) l[m] x
    by_cases hc : l[m] < x
    · simp only [hc, decide_true] at c1
      have hs : True := trivial
      repeat' first | (with_reducible first | refine q01 ?_ | refine q03 ?_ | refine q04 ?_ | refine q06 ?_ | refine q11 ?_ | refine q12 ?_ | refine q14 ?_ | refine q16 ?_ | refine q17 ?_) | (with_reducible refine At.fn_ret (by simp -dsimp [hx, hw1, hw2, hw3, hw4, hd, hm, hs]; exact rfl) ?_) | (refine CallE.pure (c1) ?_; try simp -dsimp [hx, hw1, hw2, hw3, hw4, hd, hm, hs]) | (with_reducible refine DT_regionE [0, 1, 4, 5, 6, 7, 8, 9, 15, 27] ?_; simp -dsimp [hx, hw1, hw2, hw3, hw4, hd, hm, hs]) | (refine DT_cond rfl (fun h => ?_) (fun h => ?_) <;> (try simp only [nrm] at h) <;> (try exact Bool.noConfusion h)) | (with_reducible refine GStop_split ?_ ?_ <;> intro h <;> have h0 := h <;> (try simp only [nrm] at h) <;> (try exact Bool.noConfusion h) <;> have h2 := h <;> (try simp at h2) <;> (replace hs := And.intro h0 (And.intro h (And.intro h2 hs))) <;> simp -dsimp [h0, h, h2, hx, hw1, hw2, hw3, hw4, hd, hm, hs])
      all_goals try simp -dsimp [hx, hw1, hw2, hw3, hw4, hd, hm, hs]
      all_goals try clear hs
      all_goals try omega
      exact At.round ⟨(m + 1, j), by simp; omega⟩ (by simp; omega) (Weak.of_keep [0,1,6,7,8] (by simp))
    · simp only [hc, decide_false] at c1
      have hs : True := trivial
      repeat' first | (with_reducible first | refine q01 ?_ | refine q03 ?_ | refine q04 ?_ | refine q06 ?_ | refine q11 ?_ | refine q12 ?_ | refine q14 ?_ | refine q16 ?_ | refine q17 ?_) | (with_reducible refine At.fn_ret (by simp -dsimp [hx, hw1, hw2, hw3, hw4, hd, hm, hs]; exact rfl) ?_) | (refine CallE.pure (c1) ?_; try simp -dsimp [hx, hw1, hw2, hw3, hw4, hd, hm, hs]) | (with_reducible refine DT_regionE [0, 1, 4, 5, 6, 7, 8, 9, 15, 27] ?_; simp -dsimp [hx, hw1, hw2, hw3, hw4, hd, hm, hs]) | (refine DT_cond rfl (fun h => ?_) (fun h => ?_) <;> (try simp only [nrm] at h) <;> (try exact Bool.noConfusion h)) | (with_reducible refine GStop_split ?_ ?_ <;> intro h <;> have h0 := h <;> (try simp only [nrm] at h) <;> (try exact Bool.noConfusion h) <;> have h2 := h <;> (try simp at h2) <;> (replace hs := And.intro h0 (And.intro h (And.intro h2 hs))) <;> simp -dsimp [h0, h, h2, hx, hw1, hw2, hw3, hw4, hd, hm, hs])
      all_goals try simp -dsimp [hx, hw1, hw2, hw3, hw4, hd, hm, hs]
      all_goals try clear hs
      all_goals try omega
      exact At.round ⟨(i, m), by simp; omega⟩ (by simp; omega) (Weak.of_keep [0,1,6,7,8] (by simp))
  · have hi : i = lb l x := by omega
    subst hi
    have c2 := isNaN2_c (G := G) x
    have hmem := mem_lb (x := x) hs
    by_cases hn : lb l x < l.length
    · have hx : l[lb l x]? = some l[lb l x] := by simp [hn]
      have c1 := isNaN2_c (G := G) l[lb l x]
      rw [hx] at hmem
      have hs : True := trivial
      repeat' first | (with_reducible first | refine q01 ?_ | refine q03 ?_ | refine q06 ?_ | refine q11 ?_ | refine q16 ?_ | refine q17 ?_) | (with_reducible refine At.fn_ret (by simp -dsimp [hx, hlt, hn, hs]; exact rfl) ?_) | (refine CallE.pure (c1) ?_; try simp -dsimp [hx, hlt, hn, hs]) | (with_reducible refine DT_regionE [0, 1, 4, 5, 6, 7, 8, 9, 15, 27] ?_; simp -dsimp [hx, hlt, hn, hs]) | (refine DT_cond rfl (fun h => ?_) (fun h => ?_) <;> (try simp only [nrm] at h) <;> (try exact Bool.noConfusion h)) | (with_reducible refine GStop_split ?_ ?_ <;> intro h <;> have h0 := h <;> (try simp only [nrm] at h) <;> (try exact Bool.noConfusion h) <;> have h2 := h <;> (try simp at h2) <;> (replace hs := And.intro h0 (And.intro h (And.intro h2 hs))) <;> simp -dsimp [h0, h, h2, hx, hlt, hn, hs])
      all_goals try simp -dsimp [hx, hlt, hn, hs]
      all_goals try clear hs
      all_goals try omega
      all_goals simp_all
    · rw [List.getElem?_eq_none (by omega)] at hmem
      have hs : True := trivial
      repeat' first | (with_reducible first | refine q01 ?_ | refine q03 ?_ | refine q06 ?_ | refine q11 ?_ | refine q16 ?_ | refine q17 ?_) | (with_reducible refine At.fn_ret (by simp -dsimp [hlt, hn, hs]; exact rfl) ?_) | (with_reducible refine DT_regionE [0, 1, 4, 5, 6, 7, 8, 9, 15, 27] ?_; simp -dsimp [hlt, hn, hs]) | (refine DT_cond rfl (fun h => ?_) (fun h => ?_) <;> (try simp only [nrm] at h) <;> (try exact Bool.noConfusion h))
      all_goals try simp -dsimp [hlt, hn, hs]
      all_goals try clear hs
      all_goals try omega
      all_goals simp_all
end Go.Proofs
namespace Go.Proofs
open Go Go.Ab
attribute [local simp] dslice setLp
set_option linter.unusedSimpArgs false
variable {G : Nat → Option (List IC)}
theorem bsearchI_c (l : List Issue) (x : Int) (hs : (l.map (·.drawing)).Pairwise (· ≤ ·)) (hl : l.length < 1000000) (objs : List DObj) : DCall Tryz.prog G 173 [.one (.im (.sl (l.map encIssue))), iv x, .one (.im (.fn (.func 174) []))] objs (fun rr objs' => rr = .tup [iv (lb (l.map (·.drawing)) x), bv (decide (x ∈ l.map (·.drawing)))] ∧ objs' = objs) := by
  refine DCall.frame ?_ (by simp) (by simp) objs
  refine DCall_intro Tryz.func173 rfl Tryz.ntmps173 (by simp) rfl ?_
  try simp only [iv]
  have hlb := lb_le (l.map (·.drawing)) x
  simp only [List.length_map] at hlb
  have hs : True := trivial
  repeat' first | (with_reducible first | refine q01 ?_ | refine q11 ?_ | refine q12 ?_) | (with_reducible refine DT_regionE [0, 1, 2, 6, 7, 8, 9, 10, 11, 17, 31] ?_; simp -dsimp [hs])
  all_goals try simp -dsimp [hs]
  all_goals try clear hs
  refine DT_loop (ι := { p : Nat × Nat // p.1 ≤ lb (l.map (·.drawing)) x ∧ lb (l.map (·.drawing)) x ≤ p.2 ∧ p.2 ≤ l.length }) (fun p => ⟨49, [(0, .one (.im (.sl (l.map encIssue)))), (1, iv x), (2, .one (.im (.fn (.func 174) []))), (8, iv (l.length : Int)), (9, iv (p.1.1 : Int)), (10, iv (p.1.2 : Int))], []⟩) (fun p => p.1.2 - p.1.1) ⟨(0, l.length), by simp; omega⟩ (Weak.of_keep [0,1,2,8,9,10] (by simp)) ?_
  rintro ⟨⟨i, j⟩, h1, h2, h3⟩
  simp only at h1 h2 h3
  simp only [iv, isv]
  have hw1 : IntKind.i64.wrap ((i : Int) + (j : Int)) = (i : Int) + (j : Int) := i64w (by omega) (by omega)
  have hw2 : IntKind.u64.wrap ((i : Int) + (j : Int)) = (i : Int) + (j : Int) := u64w (by omega) (by omega)
  have hd : ((i : Int) + (j : Int)).fdiv 2 = (((i + j) / 2 : Nat) : Int) := by
    rw [Int.fdiv_eq_ediv_of_nonneg _ (by omega)]; omega
  have hw3 : IntKind.i64.wrap ((((i + j) / 2 : Nat) : Int)) = (((i + j) / 2 : Nat) : Int) := i64w (by omega) (by omega)
  have hw4 : IntKind.i64.wrap ((((i + j) / 2 : Nat) : Int) + 1) = (((i + j) / 2 + 1 : Nat) : Int) := i64w (by omega) (by omega)
  by_cases hlt : i < j
  · generalize hm : (i + j) / 2 = m at hd hw3 hw4
    have hx : l[m]? = some l[m] := by simp
    have hsp := lb_spec (x := x) hs m l[m].drawing (by simp [hx])
    have c1 := cmpIssue_c (G := G) l[m] x
    by_cases hc : l[m].drawing < x
    · have hcm : cmpI l[m].drawing x = -1 := by simp [cmpI, hc]
      rw [hcm] at c1
      have hs : True := trivial
      repeat' first | (with_reducible first | refine q01 ?_ | refine q03 ?_ | refine q04 ?_ | refine q06 ?_ | refine q11 ?_ | refine q12 ?_ | refine q14 ?_ | refine q16 ?_ | refine q17 ?_) | (with_reducible refine At.fn_ret (by simp -dsimp [hx, hw1, hw2, hw3, hw4, hd, hm, hs]; exact rfl) ?_) | (refine CallE.pure (c1) ?_; try simp -dsimp [hx, hw1, hw2, hw3, hw4, hd, hm, hs]) | (with_reducible refine DT_regionE [0, 1, 2, 6, 7, 8, 9, 10, 11, 17, 31] ?_; simp -dsimp [hx, hw1, hw2, hw3, hw4, hd, hm, hs]) | (refine DT_cond rfl (fun h => ?_) (fun h => ?_) <;> (try simp only [nrm] at h) <;> (try exact Bool.noConfusion h)) | (with_reducible refine GStop_split ?_ ?_ <;> intro h <;> have h0 := h <;> (try simp only [nrm] at h) <;> (try exact Bool.noConfusion h) <;> have h2 := h <;> (try simp at h2) <;> (replace hs := And.intro h0 (And.intro h (And.intro h2 hs))) <;> simp -dsimp [h0, h, h2, hx, hw1, hw2, hw3, hw4, hd, hm, hs])
      all_goals try simp -dsimp [hx, hw1, hw2, hw3, hw4, hd, hm, hs]
      all_goals try clear hs
      all_goals try omega
      exact At.round ⟨(m + 1, j), by simp; omega⟩ (by simp; omega) (Weak.of_keep [0,1,2,8,9,10] (by simp))
    · have hcm : ¬ cmpI l[m].drawing x < 0 := by simp only [cmpI, hc, if_false]; split <;> omega
      generalize cmpI l[m].drawing x = q at c1 hcm
      have hs : True := trivial
      repeat' first | (with_reducible first | refine q01 ?_ | refine q03 ?_ | refine q04 ?_ | refine q06 ?_ | refine q11 ?_ | refine q12 ?_ | refine q14 ?_ | refine q16 ?_ | refine q17 ?_) | (with_reducible refine At.fn_ret (by simp -dsimp [hx, hw1, hw2, hw3, hw4, hd, hm, hs]; exact rfl) ?_) | (refine CallE.pure (c1) ?_; try simp -dsimp [hx, hw1, hw2, hw3, hw4, hd, hm, hs]) | (with_reducible refine DT_regionE [0, 1, 2, 6, 7, 8, 9, 10, 11, 17, 31] ?_; simp -dsimp [hx, hw1, hw2, hw3, hw4, hd, hm, hs]) | (refine DT_cond rfl (fun h => ?_) (fun h => ?_) <;> (try simp only [nrm] at h) <;> (try exact Bool.noConfusion h)) | (with_reducible refine GStop_split ?_ ?_ <;> intro h <;> have h0 := h <;> (try simp only [nrm] at h) <;> (try exact Bool.noConfusion h) <;> have h2 := h <;> (try simp at h2) <;> (replace hs := And.intro h0 (And.intro h (And.intro h2 hs))) <;> simp -dsimp [h0, h, h2, hx, hw1, hw2, hw3, hw4, hd, hm, hs])
      all_goals try simp -dsimp [hx, hw1, hw2, hw3, hw4, hd, hm, hs]
      all_goals try clear hs
      all_goals try omega
      exact At.round ⟨(i, m), by simp; omega⟩ (by simp; omega) (Weak.of_keep [0,1,2,8,9,10] (by simp))
  · have hi : i = lb (l.map (·.drawing)) x := by omega
    subst hi
    have hmem := mem_lb (x := x) hs
    by_cases hn : lb (l.map (·.drawing)) x < l.length
    · have hx : l[lb (l.map (·.drawing)) x]? = some l[lb (l.map (·.drawing)) x] := by simp [hn]
      have c1 := cmpIssue_c (G := G) l[lb (l.map (·.drawing)) x] x
      have hq : decide (cmpI l[lb (l.map (·.drawing)) x].drawing x = 0) = decide (x ∈ l.map (·.drawing)) := by
        rw [decide_eq_decide, hmem, List.getElem?_map, hx]
        simp only [cmpI, Option.map_some, Option.some.injEq]
        split <;> (try split) <;> omega
      generalize cmpI l[lb (l.map (·.drawing)) x].drawing x = q at c1 hq
      have hs : True := trivial
      repeat' first | (with_reducible first | refine q01 ?_ | refine q03 ?_ | refine q06 ?_ | refine q11 ?_ | refine q16 ?_ | refine q17 ?_) | (with_reducible refine At.fn_ret (by simp -dsimp [hx, hlt, hn, hs]; exact rfl) ?_) | (refine CallE.pure (c1) ?_; try simp -dsimp [hx, hlt, hn, hs]) | (with_reducible refine DT_regionE [0, 1, 2, 6, 7, 8, 9, 10, 11, 17, 31] ?_; simp -dsimp [hx, hlt, hn, hs]) | (refine DT_cond rfl (fun h => ?_) (fun h => ?_) <;> (try simp only [nrm] at h) <;> (try exact Bool.noConfusion h))
      all_goals try simp -dsimp [hx, hlt, hn, hs]
      all_goals try clear hs
      all_goals try omega
      all_goals simp_all
    · rw [List.getElem?_eq_none (by simp; omega)] at hmem
      have hs : True := trivial
      repeat' first | (with_reducible first | refine q01 ?_ | refine q03 ?_ | refine q06 ?_ | refine q11 ?_ | refine q16 ?_ | refine q17 ?_) | (with_reducible refine At.fn_ret (by simp -dsimp [hlt, hn, hs]; exact rfl) ?_) | (with_reducible refine DT_regionE [0, 1, 2, 6, 7, 8, 9, 10, 11, 17, 31] ?_; simp -dsimp [hlt, hn, hs]) | (refine DT_cond rfl (fun h => ?_) (fun h => ?_) <;> (try simp only [nrm] at h) <;> (try exact Bool.noConfusion h))
      all_goals try simp -dsimp [hlt, hn, hs]
      all_goals try clear hs
      all_goals try omega
      all_goals simp_all
def bookI (l : List Issue) (ds : List Int) : IC := .ip [.sl (l.map encIssue), .sl (ds.map encI)]
theorem has_c (l : List Issue) (ds : List Int) (n : Int) (hs : ds.Pairwise (· ≤ ·)) (hl : ds.length < 1000000) (objs : List DObj) : DCall Tryz.prog G 147 [.one (.im (bookI l ds)), iv n] objs (fun rr objs' => rr = bv (decide (n ∈ ds)) ∧ objs' = objs) := by
  refine DCall.frame ?_ (by simp) (by simp) objs
  refine DCall_intro Tryz.func147 rfl Tryz.ntmps147 (by simp) rfl ?_
  try simp only [iv]
  have c1 := bsearch_c (G := G) ds n hs hl
  simp only [bookI]
  have hs : True := trivial
  repeat' first | (with_reducible first | refine q01 ?_ | refine q11 ?_ | refine q17 ?_) | (with_reducible refine At.fn_ret (by simp -dsimp [hs]; exact rfl) ?_) | (refine CallE.pure (c1) ?_; try simp -dsimp [hs]) | (with_reducible refine DT_regionE [0, 1, 4, 6] ?_; simp -dsimp [hs])
  all_goals try simp -dsimp [hs]
  all_goals try clear hs
theorem issues_c (b : IC) (n : Int) (objs : List DObj) : DCall Tryz.prog G 149 [.one (.im b), iv n] objs (fun rr objs' => rr = .one (.im (.fn (.func 172) [.ip [b], .ip [rI n]])) ∧ objs' = objs) := by
  refine DCall.frame ?_ (by simp) (by simp) objs
  refine DCall_intro Tryz.func149 rfl Tryz.ntmps149 (by simp) rfl ?_
  try simp only [iv]
  have hs : True := trivial
  repeat' first | (with_reducible first | refine q01 ?_ | refine q11 ?_ | refine q17 ?_) | (with_reducible refine At.fn_ret (by simp -dsimp [hs]; exact rfl) ?_) | (with_reducible refine DT_regionE [0, 1, 2, 3, 4] ?_; simp -dsimp [hs])
  all_goals try simp -dsimp [hs]
  all_goals try clear hs
end Go.Proofs
namespace Go.Ab
open Go
@[simp] theorem dslice_drop {α : Type} (objs : List DObj) (l : List α) (f : α → List IC) (k sz : Nat) (h : k ≤ l.length) (hf : ∀ x, (f x).length = sz) :
    dslice objs (.im (.sl (l.map f))) (k : Int) none sz = some (.im (.sl ((l.drop k).map f))) := by
  simp only [dslice, Option.getD_none, List.length_map, Int.toNat_natCast, Int.natCast_eq_zero]
  rw [if_pos (by omega)]
  split
  · rename_i hk; subst hk
    simp [List.take_of_length_le]
  · by_cases hk : k < l.length
    · simp [hk, hf, List.take_of_length_le, List.map_drop]
    · have he : k = l.length := by omega
      subst he
      simp
@[simp] theorem dslice_take {α : Type} (objs : List DObj) (l : List α) (f : α → List IC) (k sz : Nat) (h : k ≤ l.length) :
    dslice objs (.im (.sl (l.map f))) 0 (some (k : Int)) sz = some (.im (.sl ((l.take k).map f))) := by
  simp only [dslice, Option.getD_some, List.length_map, Int.toNat_natCast]
  rw [if_pos (by omega), if_pos trivial, List.map_take]
theorem dslice_vec (objs : List DObj) (o g off len : Nat) (lo : Int) (hi : Option Int) (sz : Nat) : dslice objs (.vec o g off len) lo hi sz = if 0 ≤ lo ∧ lo ≤ hi.getD len ∧ hi.getD len ≤ len then match objs[o]? with
      | some (.vec z _ g' _) => if g = g' ∧ (z = sz ∨ len = 0) then some (.vec o g (off + lo.toNat) ((hi.getD len).toNat - lo.toNat)) else none
      | _ => none
    else none := rfl
attribute [simp] dslice_vec
end Go.Ab
namespace Go.Ab
open Go
/-- The record at another state. -/
def LoopD.at (r : LoopD) (st : LoopState) (pend : Option Code) : LoopD := { r with st := st, pend := pend }
theorem LoopD.at_st (r : LoopD) (st : LoopState) (pend : Option Code) : (r.at st pend).st = st := rfl
theorem LoopD.at_pend (r : LoopD) (st : LoopState) (pend : Option Code) : (r.at st pend).pend = pend := rfl
theorem LoopD.at_nt (r : LoopD) (st : LoopState) (pend : Option Code) : (r.at st pend).nt = r.nt := rfl
theorem LoopD.at_tm (r : LoopD) (st : LoopState) (pend : Option Code) : (r.at st pend).tm = r.tm := rfl
theorem LoopD.at_ps (r : LoopD) (st : LoopState) (pend : Option Code) : (r.at st pend).ps = r.ps := rfl
theorem LoopD.at_asg (r : LoopD) (st : LoopState) (pend : Option Code) : (r.at st pend).asg = r.asg := rfl
theorem LoopD.at_body (r : LoopD) (st : LoopState) (pend : Option Code) : (r.at st pend).body = r.body := rfl
theorem LoopD.at_at (r : LoopD) (st st' : LoopState) (pend pend' : Option Code) : (r.at st pend).at st' pend' = r.at st' pend' := rfl
attribute [simp] LoopD.at_st LoopD.at_pend LoopD.at_nt LoopD.at_tm LoopD.at_ps LoopD.at_asg LoopD.at_body LoopD.at_at
theorem setLp_at (objs : List DObj) (o : Nat) (st : LoopState) (pend : Option Code) : setLp objs o st pend = match objs[o]? with
  | some (.loop r) => objs.set o (.loop (r.at st pend))
  | _ => objs := rfl
attribute [simp] setLp_at
theorem YieldE_go {P : Program} {G : Nat → Option (List IC)} {o : Nat} {xs : List DV} {objs : List DObj} {C : DV → List DObj → Prop} {t : Tok C} (h : YieldR P G o xs objs C objs[o]?) : YieldE P G o xs objs C t := h
theorem At_busy {P : Program} {G : Nat → Option (List IC)} {o m : Nat} {body : Code} {C : DV → List DObj → Prop} {A : DS → Prop} {Q : Exit → DS → Prop} {t : Tok (thenQ (fun S' => A S' ∧ Busy P G o m body C S') Q)} {S : DS} (h1 : A S)
    (h2 : DT P G ⟨m, some o⟩ body { S with objs := setLp S.objs o .busy none } (YieldQ o C)) : At (thenQ (fun S' => A S' ∧ Busy P G o m body C S') Q) .normal t S := ⟨h1, h2⟩
end Go.Ab
