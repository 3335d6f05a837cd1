/- Part 18 of the proofs: laws and walks that hold without conditions beyond those that each theorem names. -/
import Derived.Test.YtmfanojaldiejaaDoorA16
import Derived.Test.YtmfanojaldiejaaDoorA17
set_option linter.all false
set_option linter.deprecated false
namespace Go.Proofs
open Go Go.Ab
set_option linter.unusedSimpArgs false
variable {G : Nat → Option (List IC)}
theorem openR_im (l : List Issue) : ImV (openR l) := by unfold openR; split <;> simp [bookI]
attribute [simp] openR_im
theorem scan_bad {x : Issue} (h : issueOk x = false) (p : Option Issue) (r : List Issue) : scanI p (x :: r) = none := by cases p <;> simp [scanI, h]
def chk (x : Issue) : Nat → Bool
  | 0 => ck1 x
  | 1 => ck2 x
  | 2 => itemsOk x.drawing 0 x.items
  | _ => x.dims.all dimOk
theorem chk_bad {x : Issue} {c : Nat} (h : chk x c = false) : issueOk x = false := by
  unfold issueOk
  match c with
  | 0 => simp only [chk] at h; simp [h]
  | 1 => simp only [chk] at h; simp [h]
  | 2 => simp only [chk] at h; simp [h]
  | c + 3 => simp only [chk] at h; simp [h]
theorem chk_all {x : Issue} (h : ∀ i < 4, chk x i = true) : issueOk x = true := by
  have h0 := h 0 (by omega); have h1 := h 1 (by omega); have h2 := h 2 (by omega); have h3 := h 3 (by omega)
  simp only [chk] at h0 h1 h2 h3
  simp [issueOk, h0, h1, h2, h3]
theorem openE_none {l : List Issue} (h : scanI none l = none) : openE l = (20, []) := by
  unfold openE; split
  · rfl
  · rw [h]
theorem encMI_get {m : List (Int × Int)} {i : Nat} {a : List Value} {b : List IC} (h : (encMI m)[i]? = some (a, b)) : ∃ p, m[i]? = some p ∧ a = kI p.1 ∧ b = [rI p.2] := by
  rw [encMI, List.getElem?_map, Option.map_eq_some_iff] at h
  obtain ⟨p, h1, h2⟩ := h
  cases h2; exact ⟨p, h1, rfl, rfl⟩
theorem encMI_erase (m : List (Int × Int)) (i : Nat) : (encMI m).eraseIdx i = encMI (m.eraseIdx i) := by
  simp only [encMI, List.eraseIdx_eq_take_drop_succ, List.map_append, List.map_take, List.map_drop]
theorem any_erase {α : Type} {f : α → Bool} {l : List α} {i : Nat} {x : α} (h : l[i]? = some x) (hx : f x = false) : l.any f = (l.eraseIdx i).any f := by
  have hlt := lt_of_getElem? h
  rw [List.eraseIdx_eq_take_drop_succ, List.any_append]
  conv => lhs; rw [← List.take_append_drop i l, List.any_append, List.drop_eq_getElem_cons hlt, List.any_cons]
  rw [List.getElem?_eq_getElem hlt] at h
  cases h; rw [hx, Bool.false_or]
set_option maxHeartbeats 4000000 in
theorem open_c (l : List Issue) (hG : G 1 = some [.fn (.func 128) [], .fn (.func 129) [], .fn (.func 130) [], .fn (.func 131) []]) (hl : l.length < 1000000) (hx : ∀ x ∈ l, 0 ≤ x.kind ∧ x.kind ≤ 255 ∧ x.items.length < 1000000 ∧ x.dims.length < 1000000) (objs : List DObj) : DCall Tryd.prog G 61 [regv l] objs (fun rr objs' => rr = .tup [openR l, iv (openE l).1] ∧ objs' = objs) := by
  refine DCall.frame ?_ (by simp) (by simp) objs
  refine DCall_intro Tryd.func61 rfl Tryd.ntmps61 (by simp) rfl ?_
  try simp only [regv]
  have c1 := in_sheet (G := G) 1 60 [(l.length : Int)] (by simp)
  by_cases hrange : l.length < 1 ∨ 60 < l.length
  · have hr : ([(l.length : Int)].all fun x => decide (1 ≤ x) && decide (x ≤ 60)) = false := by
      simp; omega
    simp only [hr] at c1
    have h20 : openE l = (20, []) := by unfold openE; rw [if_pos hrange]
    have hs : True := trivial
    repeat' first | (with_reducible first | refine q01 ?_ | refine q02 ?_ | refine q09 ?_ | refine q11 ?_ | refine q13 ?_ | refine q17 ?_) | (with_reducible refine At.fn_ret (by simp -dsimp [hs]; exact rfl) ?_) | (refine CallE.thaw (c1) ?_ ?_ ?_; (focus (simp; done)); (focus (simp; done)); try simp -dsimp [hs]) | (with_reducible refine DT_regionN (id := 1) (nt := 122) [0,1,2,3,4,5,6,8,9,11,12,13,15,24,26,27,28,29,33,34,35,41,44,55,68,73,76,94,96,97,98,99,105,112,114,116,120] rfl ?_; simp -dsimp [hs]) | (with_reducible refine DT_regionE [0,1,2,3,4,5,6,8,9,11,12,13,15,24,26,27,28,29,33,34,35,41,44,55,68,73,76,94,96,97,98,99,105,112,114,116,120] ?_; simp -dsimp [hs]) | (refine DT_cond rfl (fun h => ?_) (fun h => ?_) <;> (try simp only [nrm] at h) <;> (try exact Bool.noConfusion h))
    all_goals try simp -dsimp [hs]
    all_goals try clear hs
    all_goals simp [openR, h20]
  have hr : ([(l.length : Int)].all fun x => decide (1 ≤ x) && decide (x ≤ 60)) = true := by
    simp; omega
  simp only [hr] at c1
  have hll : l.length ≤ 60 := by omega
  have hs : True := trivial
  repeat' first | (with_reducible first | refine q01 ?_ | refine q11 ?_ | refine q12 ?_ | refine q13 ?_ | refine q14 ?_ | refine q15 ?_) | (refine CallE.thaw (c1) ?_ ?_ ?_; (focus (simp; done)); (focus (simp; done)); try simp -dsimp [hs]) | (with_reducible refine DT_regionN (id := 1) (nt := 122) [0,1,2,3,4,5,6,8,9,11,12,13,15,24,26,27,28,29,33,34,35,41,44,55,68,73,76,94,96,97,98,99,105,112,114,116,120] rfl ?_; simp -dsimp [hs]) | (with_reducible refine DT_regionE [0,1,2,3,4,5,6,8,9,11,12,13,15,24,26,27,28,29,33,34,35,41,44,55,68,73,76,94,96,97,98,99,105,112,114,116,120] ?_; simp -dsimp [hs]) | (refine DT_cond rfl (fun h => ?_) (fun h => ?_) <;> (try simp only [nrm] at h) <;> (try exact Bool.noConfusion h))
  all_goals try simp -dsimp [hs]
  all_goals try clear hs
  refine DT_loop (ι := { p : Nat × Nat × Nat × Bool × List Int // p.1 ≤ l.length ∧ (p.2.1 = 1 ∨ p.2.2.2.1 = true) ∧ (scanI (prevI l p.1) (l.drop p.1)).map (p.2.2.2.2 ++ ·) = scanI none l ∧ p.2.2.2.2.length ≤ p.1 ∧ ∀ x ∈ l.take p.1, issueOk x = true }) (fun p => ⟨122, [(1, .one (.ptr 0 0)), (2, .one (.im (.raw (.pointer none)))), (3, iv 0), (4, .one (.ptr 4 0)), (26, .one (.im (.sl (l.map encIssue)))), (27, iv (l.length : Int)), (28, iv (p.1.1 : Int))], [.row [.im (.sl (l.map encIssue))], .vec 0 [] 0 true, .vec p.1.2.1 (ims (p.1.2.2.2.2.map encI)) p.1.2.2.1 p.1.2.2.2.1, .row [.im (.sl (l.map encIssue)), .vec 2 p.1.2.2.1 0 p.1.2.2.2.2.length], .row [.ptr 3 0]]⟩) (fun p => l.length - p.1.1) ⟨(0, 0, 0, true, []), by simp [prevI]⟩ (Weak.of_drop [1,2,3,4,26,27,28] 5 (by simp) (by simp) (by simp)) ?_
  rintro ⟨⟨k, sz, g, nl, ds⟩, hk, hsz, hscan, hdl, hok⟩
  simp only at hk hsz hscan hdl hok
  simp only [iv]
  by_cases hlt : k < l.length
  · have hx1 : l[k]? = some l[k] := by simp [hlt]
    have hw : IntKind.i64.wrap ((k : Int) + 1) = ((k + 1 : Nat) : Int) := i64w (by omega) (by omega)
    have hxk := hx l[k] (List.getElem_mem hlt)
    rw [List.drop_eq_getElem_cons hlt] at hscan
    have hs : True := trivial
    repeat' first | (with_reducible first | refine q01 ?_ | refine q11 ?_ | refine q12 ?_ | refine q14 ?_) | (with_reducible refine DT_regionE [0,1,2,3,4,5,6,8,9,11,12,13,15,24,26,27,28,29,33,34,35,41,44,55,68,73,76,94,96,97,98,99,105,112,114,116,120] ?_; simp -dsimp [hx1, hG, hlt, hs]) | (refine DT_cond rfl (fun h => ?_) (fun h => ?_) <;> (try simp only [nrm] at h) <;> (try exact Bool.noConfusion h))
    all_goals try simp -dsimp [hx1, hG, hlt, hs]
    all_goals try clear hs
    have k1 := ck1_c (G := G) l[k]
    have k2 := ck2_c (G := G) l[k] ⟨hxk.1, hxk.2.1⟩
    have k3 := ck3_c (G := G) l[k] hxk.2.2.1
    have k4 := ck4_c (G := G) l[k] hxk.2.2.2
    have hbad : ∀ c, chk l[k] c = false → openE l = (20, []) := fun c h => openE_none (by rw [← hscan, scan_bad (chk_bad h)]; rfl)
    refine DT_loop (ι := { c : Nat // c ≤ 4 ∧ ∀ i < c, chk l[k] i = true }) (fun c => ⟨122, [(1, .one (.ptr 0 0)), (2, .one (.im (.raw (.pointer none)))), (3, iv 0), (4, .one (.ptr 4 0)), (5, iv (k : Int)), (6, .one (.ptr 7 0)), (26, .one (.im (.sl (l.map encIssue)))), (27, iv (l.length : Int)), (28, iv (k : Int)), (33, .agg [.im (.fn (.func 128) []), .im (.fn (.func 129) []), .im (.fn (.func 130) []), .im (.fn (.func 131) [])]), (34, iv (c.1 : Int))], [.row [.im (.sl (l.map encIssue))], .vec 0 [] 0 true, .vec sz (ims (ds.map encI)) g nl, .row [.im (.sl (l.map encIssue)), .vec 2 g 0 ds.length], .row [.ptr 3 0], .vec 0 [] 0 true, .vec 0 [] 0 true, .row ((encIssue l[k]).map .im)]⟩) (fun c => 4 - c.1) ⟨0, by simp⟩ (Weak.of_keep [1,2,3,4,5,6,26,27,28,33,34] (by simp)) ?_
    rintro ⟨c, hc, hall⟩
    simp only [iv]
    by_cases hc4 : c < 4
    · have hwc : IntKind.i64.wrap ((c : Int) + 1) = ((c + 1 : Nat) : Int) := i64w (by omega) (by omega)
      match c, hc4, hc, hall, hwc with
      | 0, hc4, hc, hall, hwc =>
        have hq' : ck1 l[k] = chk l[k] 0 := rfl
        cases hq : chk l[k] 0 <;> simp only [hq', hq] at k1
        · have h20 := hbad 0 hq
          have hs : True := trivial
          repeat' first | (with_reducible first | refine q01 ?_ | refine q02 ?_ | refine q05 ?_ | refine q09 ?_ | refine q11 ?_ | refine q12 ?_ | refine q14 ?_ | refine q17 ?_) | (with_reducible refine At.fn_ret (by simp -dsimp [hs]; exact rfl) ?_) | (refine CallE.pure (k1) ?_; try simp -dsimp [hs]) | (with_reducible refine DT_regionE [0,1,2,3,4,5,6,8,9,11,12,13,15,24,26,27,28,29,33,34,35,41,44,55,68,73,76,94,96,97,98,99,105,112,114,116,120] ?_; simp -dsimp [hs]) | (refine DT_cond rfl (fun h => ?_) (fun h => ?_) <;> (try simp only [nrm] at h) <;> (try exact Bool.noConfusion h))
          all_goals try simp -dsimp [hs]
          all_goals try clear hs
          all_goals simp [openR, h20]
        · have hs : True := trivial
          repeat' first | (with_reducible first | refine q01 ?_ | refine q04 ?_ | refine q11 ?_ | refine q12 ?_ | refine q14 ?_) | (refine CallE.pure (k1) ?_; try simp -dsimp [hwc, hs]) | (with_reducible refine DT_regionE [0,1,2,3,4,5,6,8,9,11,12,13,15,24,26,27,28,29,33,34,35,41,44,55,68,73,76,94,96,97,98,99,105,112,114,116,120] ?_; simp -dsimp [hwc, hs]) | (refine DT_cond rfl (fun h => ?_) (fun h => ?_) <;> (try simp only [nrm] at h) <;> (try exact Bool.noConfusion h))
          all_goals try simp -dsimp [hwc, hs]
          all_goals try clear hs
          exact At.round ⟨1, by omega, fun i hi => by
            rcases Nat.lt_succ_iff_lt_or_eq.1 hi with h | rfl
            · exact hall i h
            · exact hq⟩ (by simp) (Weak.of_drop [1,2,3,4,5,6,26,27,28,33,34] 8 (by simp) (by simp) (by simp; exact i64w (by omega) (by omega)))
      | 1, hc4, hc, hall, hwc =>
        have hq' : ck2 l[k] = chk l[k] 1 := rfl
        cases hq : chk l[k] 1 <;> simp only [hq', hq] at k2
        · have h20 := hbad 1 hq
          have hs : True := trivial
          repeat' first | (with_reducible first | refine q01 ?_ | refine q02 ?_ | refine q05 ?_ | refine q09 ?_ | refine q11 ?_ | refine q12 ?_ | refine q14 ?_ | refine q17 ?_) | (with_reducible refine At.fn_ret (by simp -dsimp [hs]; exact rfl) ?_) | (refine CallE.pure (k2) ?_; try simp -dsimp [hs]) | (with_reducible refine DT_regionE [0,1,2,3,4,5,6,8,9,11,12,13,15,24,26,27,28,29,33,34,35,41,44,55,68,73,76,94,96,97,98,99,105,112,114,116,120] ?_; simp -dsimp [hs]) | (refine DT_cond rfl (fun h => ?_) (fun h => ?_) <;> (try simp only [nrm] at h) <;> (try exact Bool.noConfusion h))
          all_goals try simp -dsimp [hs]
          all_goals try clear hs
          all_goals simp [openR, h20]
        · have hs : True := trivial
          repeat' first | (with_reducible first | refine q01 ?_ | refine q04 ?_ | refine q11 ?_ | refine q12 ?_ | refine q14 ?_) | (refine CallE.pure (k2) ?_; try simp -dsimp [hwc, hs]) | (with_reducible refine DT_regionE [0,1,2,3,4,5,6,8,9,11,12,13,15,24,26,27,28,29,33,34,35,41,44,55,68,73,76,94,96,97,98,99,105,112,114,116,120] ?_; simp -dsimp [hwc, hs]) | (refine DT_cond rfl (fun h => ?_) (fun h => ?_) <;> (try simp only [nrm] at h) <;> (try exact Bool.noConfusion h))
          all_goals try simp -dsimp [hwc, hs]
          all_goals try clear hs
          exact At.round ⟨2, by omega, fun i hi => by
            rcases Nat.lt_succ_iff_lt_or_eq.1 hi with h | rfl
            · exact hall i h
            · exact hq⟩ (by simp) (Weak.of_drop [1,2,3,4,5,6,26,27,28,33,34] 8 (by simp) (by simp) (by simp; exact i64w (by omega) (by omega)))
      | 2, hc4, hc, hall, hwc =>
        have hq' : itemsOk l[k].drawing 0 l[k].items = chk l[k] 2 := rfl
        cases hq : chk l[k] 2 <;> simp only [hq', hq] at k3
        · have h20 := hbad 2 hq
          have hs : True := trivial
          repeat' first | (with_reducible first | refine q01 ?_ | refine q02 ?_ | refine q05 ?_ | refine q09 ?_ | refine q11 ?_ | refine q12 ?_ | refine q14 ?_ | refine q17 ?_) | (with_reducible refine At.fn_ret (by simp -dsimp [hs]; exact rfl) ?_) | (refine CallE.pure (k3) ?_; try simp -dsimp [hs]) | (with_reducible refine DT_regionE [0,1,2,3,4,5,6,8,9,11,12,13,15,24,26,27,28,29,33,34,35,41,44,55,68,73,76,94,96,97,98,99,105,112,114,116,120] ?_; simp -dsimp [hs]) | (refine DT_cond rfl (fun h => ?_) (fun h => ?_) <;> (try simp only [nrm] at h) <;> (try exact Bool.noConfusion h))
          all_goals try simp -dsimp [hs]
          all_goals try clear hs
          all_goals simp [openR, h20]
        · have hs : True := trivial
          repeat' first | (with_reducible first | refine q01 ?_ | refine q04 ?_ | refine q11 ?_ | refine q12 ?_ | refine q14 ?_) | (refine CallE.pure (k3) ?_; try simp -dsimp [hwc, hs]) | (with_reducible refine DT_regionE [0,1,2,3,4,5,6,8,9,11,12,13,15,24,26,27,28,29,33,34,35,41,44,55,68,73,76,94,96,97,98,99,105,112,114,116,120] ?_; simp -dsimp [hwc, hs]) | (refine DT_cond rfl (fun h => ?_) (fun h => ?_) <;> (try simp only [nrm] at h) <;> (try exact Bool.noConfusion h))
          all_goals try simp -dsimp [hwc, hs]
          all_goals try clear hs
          exact At.round ⟨3, by omega, fun i hi => by
            rcases Nat.lt_succ_iff_lt_or_eq.1 hi with h | rfl
            · exact hall i h
            · exact hq⟩ (by simp) (Weak.of_drop [1,2,3,4,5,6,26,27,28,33,34] 8 (by simp) (by simp) (by simp; exact i64w (by omega) (by omega)))
      | 3, hc4, hc, hall, hwc =>
        have hq' : l[k].dims.all dimOk = chk l[k] 3 := rfl
        cases hq : chk l[k] 3 <;> simp only [hq', hq] at k4
        · have h20 := hbad 3 hq
          have hs : True := trivial
          repeat' first | (with_reducible first | refine q01 ?_ | refine q02 ?_ | refine q05 ?_ | refine q09 ?_ | refine q11 ?_ | refine q12 ?_ | refine q14 ?_ | refine q17 ?_) | (with_reducible refine At.fn_ret (by simp -dsimp [hs]; exact rfl) ?_) | (refine CallE.pure (k4) ?_; try simp -dsimp [hs]) | (with_reducible refine DT_regionE [0,1,2,3,4,5,6,8,9,11,12,13,15,24,26,27,28,29,33,34,35,41,44,55,68,73,76,94,96,97,98,99,105,112,114,116,120] ?_; simp -dsimp [hs]) | (refine DT_cond rfl (fun h => ?_) (fun h => ?_) <;> (try simp only [nrm] at h) <;> (try exact Bool.noConfusion h))
          all_goals try simp -dsimp [hs]
          all_goals try clear hs
          all_goals simp [openR, h20]
        · have hs : True := trivial
          repeat' first | (with_reducible first | refine q01 ?_ | refine q04 ?_ | refine q11 ?_ | refine q12 ?_ | refine q14 ?_) | (refine CallE.pure (k4) ?_; try simp -dsimp [hwc, hs]) | (with_reducible refine DT_regionE [0,1,2,3,4,5,6,8,9,11,12,13,15,24,26,27,28,29,33,34,35,41,44,55,68,73,76,94,96,97,98,99,105,112,114,116,120] ?_; simp -dsimp [hwc, hs]) | (refine DT_cond rfl (fun h => ?_) (fun h => ?_) <;> (try simp only [nrm] at h) <;> (try exact Bool.noConfusion h))
          all_goals try simp -dsimp [hwc, hs]
          all_goals try clear hs
          exact At.round ⟨4, by omega, fun i hi => by
            rcases Nat.lt_succ_iff_lt_or_eq.1 hi with h | rfl
            · exact hall i h
            · exact hq⟩ (by simp) (Weak.of_drop [1,2,3,4,5,6,26,27,28,33,34] 8 (by simp) (by simp) (by simp; exact i64w (by omega) (by omega)))
    · have hok1 : issueOk l[k] = true := chk_all fun i hi => hall i (by omega)
      clear k1 k2 k3 k4
      obtain rfl : c = 4 := by omega
      have hokn : ∀ x ∈ l.take (k + 1), issueOk x = true := by
        rw [List.take_succ_eq_append_getElem hlt]
        intro x hx
        rcases List.mem_append.1 hx with h | h
        · exact hok x h
        · simp at h; rw [h]; exact hok1
      have hnext : prevI l (k + 1) = some l[k] := by simp [prevI]
      by_cases hk0 : k = 0
      · subst hk0
        simp only [prevI] at hscan
        by_cases h1 : l[0].letter = 1
        · have hs : (scanI (prevI l 1) (l.drop 1)).map ((ds ++ [l[0].drawing]) ++ ·) = scanI none l := by
            rw [hnext, ← hscan]; simp [scanI, hok1, h1, Option.map_map, Function.comp_def]
          have hs : True := trivial
          repeat' first | (with_reducible first | refine q01 ?_ | refine q03 ?_ | refine q04 ?_ | refine q06 ?_ | refine q11 ?_ | refine q14 ?_ | refine q16 ?_ | refine And.intro (by omega) ?_) | (refine DT_regionX (id := 22) (nt := 122) 8 [0] [0,1,2,3,4,5,6,8,9,11,12,13,15,24,26,27,28,29,33,34,35,41,44,55,68,73,76,78,79,80,81,82,83,84,94,96,97,98,99,105,112,114,116,120] [0,1,2,3,4,5,6,8,9,11,12,13,15,24,26,27,28,29,33,34,35,41,44,55,68,73,76,94,96,97,98,99,105,112,114,116,120] mixed rfl (by kernel_rfl) ?_; simp -dsimp [hx1, h1, hw, hsz, hs]) | (with_reducible refine DT_regionE [0,1,2,3,4,5,6,8,9,11,12,13,15,24,26,27,28,29,33,34,35,41,44,55,68,73,76,94,96,97,98,99,105,112,114,116,120] ?_; simp -dsimp [hx1, h1, hw, hsz, hs]) | (refine DT_cond rfl (fun h => ?_) (fun h => ?_) <;> (try simp only [nrm] at h) <;> (try exact Bool.noConfusion h))
          all_goals try simp -dsimp [hx1, h1, hw, hsz, hs]
          all_goals try clear hs
          all_goals try omega
          exact At.round ⟨(1, 1, g + 1, false, ds ++ [l[0].drawing]), by omega, .inl rfl, hs, by simp only [List.length_append, List.length_cons, List.length_nil]; omega, hokn⟩ (by simp; omega) (Weak.of_drop [1,2,3,4,26,27,28] 5 (by simp) (by simp) (by simp; exact i64w (by omega) (by omega)))
        · have h20 : openE l = (20, []) := openE_none (by rw [← hscan]; simp [scanI, hok1, h1])
          have hs : True := trivial
          repeat' first | (with_reducible first | refine q01 ?_ | refine q02 ?_ | refine q03 ?_ | refine q05 ?_ | refine q06 ?_ | refine q09 ?_ | refine q11 ?_ | refine q14 ?_ | refine q16 ?_ | refine q17 ?_) | (with_reducible refine At.fn_ret (by simp -dsimp [hx1, h1, hs]; exact rfl) ?_) | (with_reducible refine DT_regionE [0,1,2,3,4,5,6,8,9,11,12,13,15,24,26,27,28,29,33,34,35,41,44,55,68,73,76,94,96,97,98,99,105,112,114,116,120] ?_; simp -dsimp [hx1, h1, hs]) | (refine DT_cond rfl (fun h => ?_) (fun h => ?_) <;> (try simp only [nrm] at h) <;> (try exact Bool.noConfusion h))
          all_goals try simp -dsimp [hx1, h1, hs]
          all_goals try clear hs
          all_goals simp [openR, h20]
      · obtain ⟨m, rfl⟩ : ∃ m, k = m + 1 := ⟨k - 1, by omega⟩
        have hw1 : IntKind.i64.wrap (((m + 1 : Nat) : Int) - 1) = m := i64w (by omega) (by omega) |>.trans (by omega)
        have hy : l[m]? = some l[m] := by simp
        have hw2 : IntKind.i64.wrap (m : Int) = m := i64w (by omega) (by omega)
        have hoky := hok l[m] (List.mem_take_iff_getElem.2 ⟨m, by omega, rfl⟩)
        have hlet : 1 ≤ l[m].letter ∧ l[m].letter ≤ 8 := by simp [issueOk, ck1] at hoky; omega
        have hwl : IntKind.i64.wrap (l[m].letter + 1) = l[m].letter + 1 := i64w (by omega) (by omega)
        simp only [prevI, hy] at hscan
        have hs : True := trivial
        repeat' first | (with_reducible first | refine q01 ?_ | refine q02 ?_ | refine q03 ?_ | refine q04 ?_ | refine q05 ?_ | refine q06 ?_ | refine q09 ?_ | refine q11 ?_ | refine q14 ?_ | refine q16 ?_ | refine q17 ?_ | refine And.intro (by omega) ?_) | (with_reducible refine At.fn_ret (by simp -dsimp [hx1, hw, hy, hw1, hw2, hwl, hsz, hs]; exact rfl) ?_) | (refine DT_regionX (id := 22) (nt := 122) 8 [0] [0,1,2,3,4,5,6,8,9,11,12,13,15,24,26,27,28,29,33,34,35,41,44,55,68,73,76,78,79,80,81,82,83,84,94,96,97,98,99,105,112,114,116,120] [0,1,2,3,4,5,6,8,9,11,12,13,15,24,26,27,28,29,33,34,35,41,44,55,68,73,76,94,96,97,98,99,105,112,114,116,120] mixed rfl (by kernel_rfl) ?_; simp -dsimp [hx1, hw, hy, hw1, hw2, hwl, hsz, hs]) | (with_reducible refine DT_regionE [0,1,2,3,4,5,6,8,9,11,12,13,15,24,26,27,28,29,33,34,35,41,44,55,68,73,76,94,96,97,98,99,105,112,114,116,120] ?_; simp -dsimp [hx1, hw, hy, hw1, hw2, hwl, hsz, hs]) | (refine DT_cond rfl (fun h => ?_) (fun h => ?_) <;> (try simp only [nrm] at h) <;> (try exact Bool.noConfusion h)) | (with_reducible refine GStop_split ?_ ?_ <;> intro h <;> have h0 := h <;> (try simp only [nrm] at h) <;> (try exact Bool.noConfusion h) <;> have h2 := h <;> (try simp at h2) <;> (replace hs := And.intro h0 (And.intro h (And.intro h2 hs))) <;> simp -dsimp [h0, h, h2, hx1, hw, hy, hw1, hw2, hwl, hsz, hs])
        all_goals try simp -dsimp [hx1, hw, hy, hw1, hw2, hwl, hsz, hs]
        all_goals try clear hs
        all_goals try omega
        · have a1 : l[m].drawing = l[m + 1].drawing := by assumption
          have a2 : ¬ l[m].kind = l[m + 1].kind := by assumption
          have h20 : openE l = (20, []) := openE_none (by rw [← hscan]; simp [scanI, hok1, a1, a2])
          simp [openR, h20]
        · have a1 : l[m].drawing = l[m + 1].drawing := by assumption
          have a2 : l[m].kind = l[m + 1].kind := by assumption
          have a3 : l[m].letter + 1 = l[m + 1].letter := by assumption
          have hs : (scanI (prevI l (m + 1 + 1)) (l.drop (m + 1 + 1))).map (ds ++ ·) = scanI none l := by
            rw [hnext, ← hscan]; simp [scanI, hok1, a1, a2, a3]
          exact At.round ⟨(m + 1 + 1, sz, g, nl, ds), by omega, hsz, hs, by show ds.length ≤ m + 1 + 1; omega, hokn⟩ (by simp; omega) (Weak.of_drop [1,2,3,4,26,27,28] 5 (by simp) (by simp) (by simp; try exact i64w (by omega) (by omega)))
        · have a1 : l[m].drawing = l[m + 1].drawing := by assumption
          have a2 : ¬ l[m].letter + 1 = l[m + 1].letter := by assumption
          have h20 : openE l = (20, []) := openE_none (by rw [← hscan]; simp [scanI, hok1, a1, a2])
          simp [openR, h20]
        · have a1 : ¬ l[m].drawing = l[m + 1].drawing := by assumption
          have a2 : l[m + 1].drawing < l[m].drawing := by assumption
          have h20 : openE l = (20, []) := openE_none (by rw [← hscan]; simp [scanI, hok1, a1, a2])
          simp [openR, h20]
        · have a1 : ¬ l[m].drawing = l[m + 1].drawing := by assumption
          have a2 : ¬ l[m + 1].drawing < l[m].drawing := by assumption
          have a3 : ¬ l[m + 1].letter = 1 := by assumption
          have h20 : openE l = (20, []) := openE_none (by rw [← hscan]; simp [scanI, hok1, a1, a2, a3])
          simp [openR, h20]
        · have a1 : ¬ l[m].drawing = l[m + 1].drawing := by assumption
          have a2 : ¬ l[m + 1].drawing < l[m].drawing := by assumption
          have a3 : l[m + 1].letter = 1 := by assumption
          have hs : (scanI (prevI l (m + 1 + 1)) (l.drop (m + 1 + 1))).map ((ds ++ [l[m + 1].drawing]) ++ ·) = scanI none l := by
            rw [hnext, ← hscan]; simp [scanI, hok1, a1, a2, a3, Option.map_map, Function.comp_def]
          exact At.round ⟨(m + 1 + 1, 1, g + 1, false, ds ++ [l[m + 1].drawing]), by omega, .inl rfl, hs, by simp only [List.length_append, List.length_cons, List.length_nil]; omega, hokn⟩ (by simp; omega) (Weak.of_drop [1,2,3,4,26,27,28] 5 (by simp) (by simp) (by simp; try exact i64w (by omega) (by omega)))
  · have hkl : k = l.length := by omega
    have hds : scanI none l = some ds := by
      rw [← hscan, hkl, List.drop_length]
      cases prevI l l.length <;> simp [scanI]
    obtain ⟨s1, s2, _, s4, _⟩ := scan_spec l none ds hds
    have hit : ∀ x ∈ l, x.items.length ≤ 16 := fun x hx' => by
      have h := s1 x hx'
      simp only [issueOk, ck2, Bool.and_eq_true] at h
      have h := h.1.1.2
      split at h
      · simp at h; omega
      · simp only [Bool.and_eq_true, decide_eq_true_eq] at h; rw [h.2]; omega
    have hdl2 : ds.length ≤ l.length := by omega
    subst hkl
    by_cases hd20 : 20 < ds.length
    · have h20 : openE l = (20, []) := by unfold openE; rw [if_neg hrange, hds]; simp [hd20]
      have hd21 : (20 : Int) < (ds.length : Int) := by omega
      have hlt' : ¬ (ds.length : Int) ≤ 20 := by omega
      have hs : True := trivial
      repeat' first | (with_reducible first | refine q01 ?_ | refine q02 ?_ | refine q03 ?_ | refine q06 ?_ | refine q09 ?_ | refine q11 ?_ | refine q16 ?_ | refine q17 ?_) | (with_reducible refine At.fn_ret (by simp -dsimp [hd21, hlt', hs]; exact rfl) ?_) | (with_reducible refine DT_regionE [0,1,2,3,4,5,6,8,9,11,12,13,15,24,26,27,28,29,33,34,35,41,44,55,68,73,76,94,96,97,98,99,105,112,114,116,120] ?_; simp -dsimp [hd21, hlt', hs]) | (refine DT_cond rfl (fun h => ?_) (fun h => ?_) <;> (try simp only [nrm] at h) <;> (try exact Bool.noConfusion h))
      all_goals try simp -dsimp [hd21, hlt', hs]
      all_goals try clear hs
      all_goals simp [openR, h20]
    · have hd21 : ¬ (20 : Int) < (ds.length : Int) := by omega
      have hs : True := trivial
      repeat' first | (with_reducible first | refine q01 ?_ | refine q03 ?_ | refine q06 ?_ | refine q11 ?_ | refine q12 ?_ | refine q14 ?_ | refine q16 ?_) | (with_reducible refine DT_regionE [0,1,2,3,4,5,6,8,9,11,12,13,15,24,26,27,28,29,33,34,35,41,44,55,68,73,76,94,96,97,98,99,105,112,114,116,120] ?_; simp -dsimp [hd21, hs]) | (refine DT_cond rfl (fun h => ?_) (fun h => ?_) <;> (try simp only [nrm] at h) <;> (try exact Bool.noConfusion h))
      all_goals try simp -dsimp [hd21, hs]
      all_goals try clear hs
      refine DT_loop (ι := { p : Nat // p ≤ l.length ∧ (l.any fun x => x.items.any fun y => !decide (y.drawing ∈ ds)) = ((l.drop p).any fun x => x.items.any fun y => !decide (y.drawing ∈ ds)) }) (fun p => ⟨122, [(1, .one (.im (.ip [.sl (l.map encIssue)]))), (2, .one (.im (.raw (.pointer none)))), (3, iv 0), (4, .one (.im (.ip [bookI l ds]))), (96, .one (.im (.sl (l.map encIssue)))), (97, iv (l.length : Int)), (98, iv (p.1 : Int))], []⟩) (fun p => l.length - p.1) ⟨0, by simp⟩ (Weak.of_drop [1,2,3,4,96,97,98] 0 (by simp) (by simp) (by simp [bookI])) ?_
      clear hscan hok hx
      rintro ⟨k, hk, hany⟩
      simp only [iv]
      by_cases hlt : k < l.length
      · have hx1 : l[k]? = some l[k] := by simp [hlt]
        have hw : IntKind.i64.wrap ((k : Int) + 1) = ((k + 1 : Nat) : Int) := i64w (by omega) (by omega)
        have hit1 := hit l[k] (List.getElem_mem hlt)
        have c3 := fun objs => containsFunc_itm (G := G) l[k].items (fun y => !decide (y.drawing ∈ ds)) 76 [.im (.ip [bookI l ds])] objs (by simp) (fun y _ => open1_c y l ds s4 (by omega) objs) (by omega)
        rw [List.drop_eq_getElem_cons hlt, List.any_cons] at hany
        cases hq : l[k].items.any fun y => !decide (y.drawing ∈ ds)
        · simp only [hq] at c3
          rw [hq, Bool.false_or] at hany
          have hs : True := trivial
          repeat' first | (with_reducible first | refine q01 ?_ | refine q04 ?_ | refine q11 ?_ | refine q12 ?_ | refine q14 ?_) | (refine CallE.pure (c3) ?_; try simp -dsimp [hx1, hw, hlt, hs]) | (with_reducible refine DT_regionE [0,1,2,3,4,5,6,8,9,11,12,13,15,24,26,27,28,29,33,34,35,41,44,55,68,73,76,94,96,97,98,99,105,112,114,116,120] ?_; simp -dsimp [hx1, hw, hlt, hs]) | (refine DT_cond rfl (fun h => ?_) (fun h => ?_) <;> (try simp only [nrm] at h) <;> (try exact Bool.noConfusion h))
          all_goals try simp -dsimp [hx1, hw, hlt, hs]
          all_goals try clear hs
          exact At.round ⟨k + 1, by omega, hany⟩ (by simp; omega) (Weak.of_drop [1,2,3,4,96,97,98] 0 (by simp) (by simp) (by simp [bookI]))
        · simp only [hq] at c3
          have h20 : openE l = (20, []) := by unfold openE; rw [if_neg hrange, hds]; simp only; rw [if_neg hd20, if_pos (by rw [hany, hq, Bool.true_or])]
          have hs : True := trivial
          repeat' first | (with_reducible first | refine q01 ?_ | refine q02 ?_ | refine q05 ?_ | refine q09 ?_ | refine q11 ?_ | refine q12 ?_ | refine q14 ?_ | refine q17 ?_) | (with_reducible refine At.fn_ret (by simp -dsimp [hx1, hw, hlt, hs]; exact rfl) ?_) | (refine CallE.pure (c3) ?_; try simp -dsimp [hx1, hw, hlt, hs]) | (with_reducible refine DT_regionE [0,1,2,3,4,5,6,8,9,11,12,13,15,24,26,27,28,29,33,34,35,41,44,55,68,73,76,94,96,97,98,99,105,112,114,116,120] ?_; simp -dsimp [hx1, hw, hlt, hs]) | (refine DT_cond rfl (fun h => ?_) (fun h => ?_) <;> (try simp only [nrm] at h) <;> (try exact Bool.noConfusion h))
          all_goals try simp -dsimp [hx1, hw, hlt, hs]
          all_goals try clear hs
          all_goals simp [openR, h20]
      · have hall : (l.any fun x => x.items.any fun y => !decide (y.drawing ∈ ds)) = false := by rw [hany, List.drop_eq_nil_of_le (by omega)]; rfl
        have c4 := depths_c (G := G) l ds s2 (by omega) (by omega) hit
        by_cases hc : 0 < (depthsI l ds).2.length
        · have h21 : openE l = (21, []) := by unfold openE; rw [if_neg hrange, hds]; simp only; rw [if_neg hd20, if_neg (by rw [hall]; decide), if_pos hc]
          simp only [hc] at c4
          have hs : True := trivial
          repeat' first | (with_reducible first | refine q01 ?_ | refine q02 ?_ | refine q03 ?_ | refine q06 ?_ | refine q09 ?_ | refine q11 ?_ | refine q16 ?_ | refine q17 ?_) | (with_reducible refine At.fn_ret (by simp -dsimp [hlt, hs]; exact rfl) ?_) | (refine CallE.pure (c4) ?_; try simp -dsimp [hlt, hs]) | (with_reducible refine DT_regionE [0,1,2,3,4,5,6,8,9,11,12,13,15,24,26,27,28,29,33,34,35,41,44,55,68,73,76,94,96,97,98,99,105,112,114,116,120] ?_; simp -dsimp [hlt, hs]) | (refine DT_cond rfl (fun h => ?_) (fun h => ?_) <;> (try simp only [nrm] at h) <;> (try exact Bool.noConfusion h))
          all_goals try simp -dsimp [hlt, hs]
          all_goals try clear hs
          all_goals simp [openR, h21]
        simp only [hc] at c4
        have hE : openE l = if (depthsI l ds).1.any (fun p => decide (6 < p.2)) then (20, []) else (0, ds) := by unfold openE; rw [if_neg hrange, hds]; simp only; rw [if_neg hd20, if_neg (by rw [hall]; decide), if_neg hc]
        have hs : True := trivial
        repeat' first | (with_reducible first | refine q01 ?_ | refine q03 ?_ | refine q06 ?_ | refine q11 ?_ | refine q12 ?_ | refine q14 ?_ | refine q16 ?_) | (refine CallE.pure (c4) ?_; try simp -dsimp [hlt, hs]) | (with_reducible refine DT_regionE [0,1,2,3,4,5,6,8,9,11,12,13,15,24,26,27,28,29,33,34,35,41,44,55,68,73,76,94,96,97,98,99,105,112,114,116,120] ?_; simp -dsimp [hlt, hs]) | (refine DT_cond rfl (fun h => ?_) (fun h => ?_) <;> (try simp only [nrm] at h) <;> (try exact Bool.noConfusion h))
        all_goals try simp -dsimp [hlt, hs]
        all_goals try clear hs
        refine DT_loop (ι := { p : List (Int × Int) × Option (List Value × List IC) // (depthsI l ds).1.any (fun q => decide (6 < q.2)) = p.1.any (fun q => decide (6 < q.2)) }) (fun p => ⟨122, [(2, .one (.im (.raw (.pointer none)))), (3, iv 0), (4, .one (.im (.ip [bookI l ds]))), (114, .one (.itr 0))], [.iter (encMI p.1.1) p.1.2]⟩) (fun p => p.1.1.length) ⟨((depthsI l ds).1, none), rfl⟩ (Weak.of_keep [2,3,4,114] (by simp)) ?_
        rintro ⟨⟨left, cur⟩, hleft⟩
        simp only [iv]
        simp only at hleft
        have hs : True := trivial
        repeat' first | (with_reducible first | refine q01 ?_ | refine q03 ?_ | refine q06 ?_ | refine q09 ?_ | refine q11 ?_ | refine q16 ?_ | refine q17 ?_) | (with_reducible refine At.fn_ret (by simp -dsimp [hs]; exact rfl) ?_) | (with_reducible refine DT_regionE [0,1,2,3,4,5,6,8,9,11,12,13,15,24,26,27,28,29,33,34,35,41,44,55,68,73,76,94,96,97,98,99,105,112,114,116,120] ?_; simp -dsimp [hs]) | (refine DT_cond rfl (fun h => ?_) (fun h => ?_) <;> (try simp only [nrm] at h) <;> (try exact Bool.noConfusion h)) | (with_reducible refine imp_At (fun h => ?_); (try simp only [List.map_eq_nil_iff] at h); (try subst h); try simp -dsimp [hs]) | with_reducible refine And.intro ?_ ?_
        all_goals try simp -dsimp [hs]
        all_goals try clear hs
        · have hl0 : left = [] := by simpa [encMI] using ‹encMI left = []›
          rw [hl0] at hleft
          have h0 : openE l = (0, ds) := by rw [hE, hleft]; rfl
          simp [openR, h0]
        · intro i a b hi
          obtain ⟨p, hp, rfl, rfl⟩ := encMI_get hi
          rw [encMI_erase]
          by_cases h6 : 6 < p.2
          · have h20 : openE l = (20, []) := by rw [hE, hleft, if_pos (List.any_eq_true.2 ⟨p, List.mem_of_getElem? hp, by simpa using h6⟩)]
            have hs : True := trivial
            repeat' first | (with_reducible first | refine q01 ?_ | refine q02 ?_ | refine q05 ?_ | refine q09 ?_ | refine q11 ?_ | refine q12 ?_ | refine q14 ?_ | refine q17 ?_) | (with_reducible refine At.fn_ret (by simp -dsimp [h6, hs]; exact rfl) ?_) | (with_reducible refine DT_regionE [0,1,2,3,4,5,6,8,9,11,12,13,15,24,26,27,28,29,33,34,35,41,44,55,68,73,76,94,96,97,98,99,105,112,114,116,120] ?_; simp -dsimp [h6, hs]) | (refine DT_cond rfl (fun h => ?_) (fun h => ?_) <;> (try simp only [nrm] at h) <;> (try exact Bool.noConfusion h))
            all_goals try simp -dsimp [h6, hs]
            all_goals try clear hs
            all_goals simp [openR, h20]
          · have hl1 : left.any (fun q => decide (6 < q.2)) = (left.eraseIdx i).any (fun q => decide (6 < q.2)) := any_erase hp (by simpa using h6)
            have hlen : (left.eraseIdx i).length < left.length := by
              have := lt_of_getElem? hp
              rw [List.length_eraseIdx]; split <;> omega
            have hs : True := trivial
            repeat' first | (with_reducible first | refine q01 ?_ | refine q04 ?_ | refine q11 ?_ | refine q12 ?_ | refine q14 ?_) | (with_reducible refine DT_regionE [0,1,2,3,4,5,6,8,9,11,12,13,15,24,26,27,28,29,33,34,35,41,44,55,68,73,76,94,96,97,98,99,105,112,114,116,120] ?_; simp -dsimp [h6, hs]) | (refine DT_cond rfl (fun h => ?_) (fun h => ?_) <;> (try simp only [nrm] at h) <;> (try exact Bool.noConfusion h))
            all_goals try simp -dsimp [h6, hs]
            all_goals try clear hs
            exact At.round ⟨(left.eraseIdx i, some (kI p.1, [rI p.2])), hleft.trans hl1⟩ hlen (Weak.of_keep [2,3,4,114] (by simp))
end Go.Proofs
namespace Go.Proofs
open Go Go.Ab
set_option linter.unusedSimpArgs false
variable {G : Nat → Option (List IC)}
def sheetG (G : Nat → Option (List IC)) : Prop := G 1 = some [.fn (.func 128) [], .fn (.func 129) [], .fn (.func 130) [], .fn (.func 131) []]
def SmallR (l : List Issue) : Prop := l.length ≤ 80 ∧ ∀ x ∈ l, 0 ≤ x.kind ∧ x.kind ≤ 255 ∧ x.items.length ≤ 16 ∧ x.dims.length ≤ 8
def bookR (l : List Issue) : DV := if checkR l = 0 then .one (.im (bookI l (nums l))) else .one (.im (.raw (.pointer none)))
theorem bookR_im (l : List Issue) : ImV (bookR l) := by unfold bookR; split <;> simp [bookI]
attribute [simp] bookR_im
theorem openR_book (l : List Issue) : openR l = bookR l := by
  obtain ⟨h1, h2⟩ := open_check l
  unfold openR bookR
  rw [h1] at h2 ⊢
  split
  · rw [(h2 ‹_›).1]
  · rfl
theorem open2_c (l : List Issue) (hG : sheetG G) (hs : SmallR l) (objs : List DObj) : DCall Tryd.prog G 61 [regv l] objs (fun rr objs' => rr = .tup [bookR l, iv (checkR l)] ∧ objs' = objs) := by
  have h := open_c (G := G) l hG (by have := hs.1; omega) (fun x hx => by have := hs.2 x hx; omega) objs
  rw [openR_book, (open_check l).1] at h
  exact h
theorem check_listed {l : List Issue} (h : checkR l = 0) : listedI l = true := ((open_check l).2 (by rw [(open_check l).1]; exact h)).2
theorem listed_scan {l : List Issue} (h : listedI l = true) : scanI none l = some (nums l) := by
  simp only [listedI, Bool.and_eq_true] at h
  obtain ⟨ds, hds⟩ := Option.isSome_iff_exists.1 h.1.1.2
  rw [hds, scan_nums hds]
theorem check_sorted {l : List Issue} (h : checkR l = 0) : (l.map (·.drawing)).Pairwise (· ≤ ·) := (scan_all (listed_scan (check_listed h))).2.2.2.2
def drawR (l : List Issue) : List Int := if checkR l = 0 then nums l else []
theorem drawings_c (l : List Issue) (hG : sheetG G) (hs : SmallR l) (objs : List DObj) : DCall Tryd.prog G 53 [regv l] objs (fun rr objs' => rr = .tup [isv (drawR l), iv (checkR l)] ∧ objs' = objs) := by
  refine DCall.frame ?_ (by simp) (by simp) objs
  refine DCall_intro Tryd.func53 rfl Tryd.ntmps53 (by simp) rfl ?_
  try simp only [regv]
  have c1 := open2_c l hG hs
  by_cases h0 : checkR l = 0
  · simp only [bookR, h0, if_true, bookI] at c1
    have hs : True := trivial
    repeat' first | (with_reducible first | refine q01 ?_ | refine q11 ?_ | refine q14 ?_ | refine q17 ?_) | (with_reducible refine At.fn_ret (by simp -dsimp [hs]; exact rfl) ?_) | (refine CallE.pure (c1) ?_; try simp -dsimp [hs]) | (with_reducible refine DT_regionE [0,1,2,3,4,5,12] ?_; simp -dsimp [hs]) | (refine DT_cond rfl (fun h => ?_) (fun h => ?_) <;> (try simp only [nrm] at h) <;> (try exact Bool.noConfusion h))
    all_goals try simp -dsimp [hs]
    all_goals try clear hs
    simp [drawR, h0]
  · simp only [bookR, h0, if_false] at c1
    have hs : True := trivial
    repeat' first | (with_reducible first | refine q01 ?_ | refine q02 ?_ | refine q11 ?_ | refine q17 ?_) | (with_reducible refine At.fn_ret (by simp -dsimp [h0, hs]; exact rfl) ?_) | (refine CallE.pure (c1) ?_; try simp -dsimp [h0, hs]) | (with_reducible refine DT_regionE [0,1,2,3,4,5,12] ?_; simp -dsimp [h0, hs]) | (refine DT_cond rfl (fun h => ?_) (fun h => ?_) <;> (try simp only [nrm] at h) <;> (try exact Bool.noConfusion h))
    all_goals try simp -dsimp [h0, hs]
    all_goals try clear hs
    all_goals simp [drawR, h0]
def atR (l : List Issue) (d lt : Int) : Issue := if checkR l = 0 then (findI l d lt).getD zIssue else zIssue
def atE (l : List Issue) (d lt : Int) : Int := if checkR l ≠ 0 then checkR l else if (findI l d lt).isSome then 0 else 6
theorem at_c (l : List Issue) (d lt : Int) (hG : sheetG G) (hs : SmallR l) (objs : List DObj) : DCall Tryd.prog G 116 [regv l, refv d lt] objs (fun rr objs' => rr = .tup [issv (atR l d lt), iv (atE l d lt)] ∧ objs' = objs) := by
  refine DCall.frame ?_ (by simp) (by simp) objs
  refine DCall_intro Tryd.func116 rfl Tryd.ntmps116 (by simp) rfl ?_
  try simp only [regv, refv]
  have c1 := open2_c l hG hs
  by_cases h0 : checkR l = 0
  · simp only [bookR, h0, if_true] at c1
    have c2 := bfind_c (G := G) l (nums l) d lt (check_sorted h0) (by have := hs.1; omega)
    simp only [refv] at c2
    cases hf : findI l d lt with
    | none =>
      simp only [hf, Option.isSome_none, Option.getD_none] at c2
      have hs : True := trivial
      repeat' first | (with_reducible first | refine q01 ?_ | refine q02 ?_ | refine q11 ?_ | refine q14 ?_ | refine q17 ?_) | (with_reducible refine At.fn_ret (by simp -dsimp [hs]; exact rfl) ?_) | (refine CallE.pure (c1) ?_; try simp -dsimp [hs]) | (refine CallE.pure (c2) ?_; try simp -dsimp [hs]) | (with_reducible refine DT_regionE [0,1,2,3,4,5,6,7,8,9,16,26] ?_; simp -dsimp [hs]) | (refine DT_cond rfl (fun h => ?_) (fun h => ?_) <;> (try simp only [nrm] at h) <;> (try exact Bool.noConfusion h))
      all_goals try simp -dsimp [hs]
      all_goals try clear hs
      all_goals simp [atR, atE, h0, hf, zIssue]
    | some y =>
      simp only [hf, Option.isSome_some, Option.getD_some] at c2
      have hy : y ∈ l := List.mem_of_find?_eq_some hf
      have c3 := copied_c (G := G) y (hs.2 y hy).2.2.1 (hs.2 y hy).2.2.2
      have hs : True := trivial
      repeat' first | (with_reducible first | refine q01 ?_ | refine q11 ?_ | refine q14 ?_ | refine q17 ?_) | (with_reducible refine At.fn_ret (by simp -dsimp [hs]; exact rfl) ?_) | (refine CallE.pure (c1) ?_; try simp -dsimp [hs]) | (refine CallE.pure (c2) ?_; try simp -dsimp [hs]) | (refine CallE.pure (c3) ?_; try simp -dsimp [hs]) | (with_reducible refine DT_regionE [0,1,2,3,4,5,6,7,8,9,16,26] ?_; simp -dsimp [hs]) | (refine DT_cond rfl (fun h => ?_) (fun h => ?_) <;> (try simp only [nrm] at h) <;> (try exact Bool.noConfusion h))
      all_goals try simp -dsimp [hs]
      all_goals try clear hs
      all_goals simp [atR, atE, h0, hf]
  · simp only [bookR, h0, if_false] at c1
    have hs : True := trivial
    repeat' first | (with_reducible first | refine q01 ?_ | refine q02 ?_ | refine q11 ?_ | refine q17 ?_) | (with_reducible refine At.fn_ret (by simp -dsimp [h0, hs]; exact rfl) ?_) | (refine CallE.pure (c1) ?_; try simp -dsimp [h0, hs]) | (with_reducible refine DT_regionE [0,1,2,3,4,5,6,7,8,9,16,26] ?_; simp -dsimp [h0, hs]) | (refine DT_cond rfl (fun h => ?_) (fun h => ?_) <;> (try simp only [nrm] at h) <;> (try exact Bool.noConfusion h))
    all_goals try simp -dsimp [h0, hs]
    all_goals try clear hs
    all_goals simp [atR, atE, h0, zIssue]
end Go.Proofs
namespace Go.Proofs
open Go Go.Ab
set_option linter.unusedSimpArgs false
variable {G : Nat → Option (List IC)}
end Go.Proofs
namespace Go.Ab
open Go
@[simp] theorem ims_set (L : List Int) (k : Nat) (v : Int) : (ims (L.map encI)).set k [DC.im (.raw (.int .i64 v))] = ims ((L.set k v).map encI) := by
  simp only [ims, List.map_set, encI, rI, List.map_cons, List.map_nil]
@[simp] theorem ims_geti (L : List Int) (k : Nat) : (ims (L.map encI))[k]? = (L[k]?).map fun v => [DC.im (.raw (.int .i64 v))] := by
  simp only [ims, List.getElem?_map, Option.map_map]; rfl
@[simp] theorem ims_getl (L : List Int) (k : Nat) (h : k < (ims (L.map encI)).length) : (ims (L.map encI))[k] = [DC.im (.raw (.int .i64 (L[k]'(by simpa [ims_length] using h))))] := by
  simp [ims]
@[simp] theorem rep_ims (n : Nat) (c : IC) : List.replicate n [DC.im c] = ims (List.replicate n [c]) := by simp [ims]
@[simp] theorem take_ims_rep (n : Nat) (c : List IC) : (ims (List.replicate n c)).take n = ims (List.replicate n c) := List.take_of_length_le (by simp [ims_length])
end Go.Ab
namespace Go.Proofs
open Go Go.Ab
set_option linter.unusedSimpArgs false
variable {G : Nat → Option (List IC)}
end Go.Proofs
namespace Go.Proofs
open Go Go.Ab
set_option linter.unusedSimpArgs false
variable {G : Nat → Option (List IC)}
end Go.Proofs
namespace Go.Proofs
open Go Go.Ab
set_option linter.unusedSimpArgs false
variable {G : Nat → Option (List IC)}
end Go.Proofs
namespace Go.Ab
open Go
structure Note where
  number : Int
  day : Int
  signed : Int
  drawing : Int
  letter : Int
  frm : Int
  to : Int
  cancels : Int
  useUp : Bool
  ways : Int
  deriving DecidableEq
structure Notes where
  reg : List Issue
  notes : List Note
  deriving DecidableEq
def encNote (x : Note) : List IC := [rI x.number, rI x.day, .raw (.int .u8 x.signed), rI x.drawing, rI x.letter, rI x.frm, rI x.to, rI x.cancels, rB x.useUp, .raw (.int .u8 x.ways)]
def encNotes (n : Notes) : List IC := [.sl (n.reg.map encIssue), .sl (n.notes.map encNote)]
def notev (x : Note) : DV := .agg ((encNote x).map .im)
def notesv (n : Notes) : DV := .agg ((encNotes n).map .im)
attribute [simp] encNote encNotes notev notesv
end Go.Ab
namespace Go.Proofs
open Go Go.Ab
set_option linter.unusedSimpArgs false
variable {G : Nat → Option (List IC)}
def nk1 (x : Note) : Bool := (decide (1 ≤ x.number) && decide (x.number ≤ 9999)) && (decide (0 ≤ x.day) && decide (x.day ≤ 14610))
set_option maxHeartbeats 1000000 in
theorem nk1_c (n : Notes) (i : Nat) (x : Note) (hx : n.notes[i]? = some x) (objs : List DObj) : DCall Tryd.prog G 112 [notesv n, iv (i : Int)] objs (fun rr objs' => rr = bv (nk1 x) ∧ objs' = objs) := by
  refine DCall.frame ?_ (by simp) (by simp) objs
  refine DCall_intro Tryd.func112 rfl Tryd.ntmps112 (by simp) rfl ?_
  try simp only [notesv, iv]
  have hi : i < n.notes.length := lt_of_getElem? hx
  have hxe : n.notes[i] = x := (List.getElem?_eq_some_iff.1 hx).2
  have c1 := in_note (G := G) 1 9999 [x.number] (by simp)
  have c2 := in_note (G := G) 0 14610 [x.day] (by simp)
  have hs : True := trivial
  repeat' first | (with_reducible first | refine q01 ?_ | refine q11 ?_ | refine q17 ?_) | (with_reducible refine At.fn_ret (by simp -dsimp [hxe, hi, hs]; exact rfl) ?_) | (refine CallE.thaw (c1) ?_ ?_ ?_; (focus (simp; done)); (focus (simp; done)); try simp -dsimp [hxe, hi, hs]) | (refine CallE.thaw (c2) ?_ ?_ ?_; (focus (simp; done)); (focus (simp; done)); try simp -dsimp [hxe, hi, hs]) | (with_reducible refine DT_regionE [0,1,2,4] ?_; simp -dsimp [hxe, hi, hs]) | (with_reducible refine GStop_split ?_ ?_ <;> intro h <;> have h0 := h <;> (try simp only [nrm] at h) <;> (try exact Bool.noConfusion h) <;> have h2 := h <;> (try simp at h2) <;> (replace hs := And.intro h0 (And.intro h (And.intro h2 hs))) <;> simp -dsimp [h0, h, h2, hxe, hi, hs])
  all_goals try simp -dsimp [hxe, hi, hs]
  all_goals try clear hs
  all_goals simp_all [nk1]
  all_goals omega
def nk2 (x : Note) : Bool := decide (x.signed ≤ 2) && decide (x.ways ≤ 3)
theorem nk2_c (n : Notes) (i : Nat) (x : Note) (hx : n.notes[i]? = some x) (objs : List DObj) : DCall Tryd.prog G 113 [notesv n, iv (i : Int)] objs (fun rr objs' => rr = bv (nk2 x) ∧ objs' = objs) := by
  refine DCall.frame ?_ (by simp) (by simp) objs
  refine DCall_intro Tryd.func113 rfl Tryd.ntmps113 (by simp) rfl ?_
  try simp only [notesv, iv]
  have hi : i < n.notes.length := lt_of_getElem? hx
  have hxe : n.notes[i] = x := (List.getElem?_eq_some_iff.1 hx).2
  have hs : True := trivial
  repeat' first | (with_reducible first | refine q01 ?_ | refine q11 ?_ | refine q17 ?_) | (with_reducible refine At.fn_ret (by simp -dsimp [hxe, hi, hs]; exact rfl) ?_) | (with_reducible refine DT_regionE [0,1,2,4] ?_; simp -dsimp [hxe, hi, hs]) | (with_reducible refine GStop_split ?_ ?_ <;> intro h <;> have h0 := h <;> (try simp only [nrm] at h) <;> (try exact Bool.noConfusion h) <;> have h2 := h <;> (try simp at h2) <;> (replace hs := And.intro h0 (And.intro h (And.intro h2 hs))) <;> simp -dsimp [h0, h, h2, hxe, hi, hs])
  all_goals try simp -dsimp [hxe, hi, hs]
  all_goals try clear hs
  all_goals (clear hx; simp_all [nk2])
  all_goals omega
def nk3 (x : Note) : Bool := (decide (1 ≤ x.frm) && decide (x.frm ≤ 999)) && (decide (1 ≤ x.to) && decide (x.to ≤ 999)) && decide (x.frm ≤ x.to)
theorem nk3_c (n : Notes) (i : Nat) (x : Note) (hx : n.notes[i]? = some x) (objs : List DObj) : DCall Tryd.prog G 114 [notesv n, iv (i : Int)] objs (fun rr objs' => rr = bv (nk3 x) ∧ objs' = objs) := by
  refine DCall.frame ?_ (by simp) (by simp) objs
  refine DCall_intro Tryd.func114 rfl Tryd.ntmps114 (by simp) rfl ?_
  try simp only [notesv, iv]
  have hi : i < n.notes.length := lt_of_getElem? hx
  have hxe : n.notes[i] = x := (List.getElem?_eq_some_iff.1 hx).2
  have c1 := in_note (G := G) 1 999 [x.frm, x.to] (by simp)
  have hs : True := trivial
  repeat' first | (with_reducible first | refine q01 ?_ | refine q11 ?_ | refine q17 ?_) | (with_reducible refine At.fn_ret (by simp -dsimp [hxe, hi, hs]; exact rfl) ?_) | (refine CallE.thaw (c1) ?_ ?_ ?_; (focus (simp; done)); (focus (simp; done)); try simp -dsimp [hxe, hi, hs]) | (with_reducible refine DT_regionE [0,1,2,4,5] ?_; simp -dsimp [hxe, hi, hs]) | (with_reducible refine GStop_split ?_ ?_ <;> intro h <;> have h0 := h <;> (try simp only [nrm] at h) <;> (try exact Bool.noConfusion h) <;> have h2 := h <;> (try simp at h2) <;> (replace hs := And.intro h0 (And.intro h (And.intro h2 hs))) <;> simp -dsimp [h0, h, h2, hxe, hi, hs])
  all_goals try simp -dsimp [hxe, hi, hs]
  all_goals try clear hs
  all_goals (clear hx c1; simp_all [nk3])
  all_goals omega
end Go.Proofs
namespace Go.Proofs
open Go Go.Ab
set_option linter.unusedSimpArgs false
variable {G : Nat → Option (List IC)}
theorem indexFunc_note (l : List Note) (p : Note → Bool) (k : Nat) (caps : List DC) (objs : List DObj) (hok : CallOk Tryd.prog k) (hf : ∀ x ∈ l, DCall Tryd.prog G k (notev x :: caps.map .one) objs (fun d o => d = bv (p x) ∧ o = objs)) (hl : l.length < 1000000) : DCall Tryd.prog G 41 [.one (.im (.sl (l.map encNote))), .one (.fn (.func k) caps)] objs (fun d o => d = iv (fidx p l) ∧ o = objs) := by
  refine DCall_intro Tryd.func41 rfl Tryd.ntmps41 (by simp) rfl ?_
  have hs : True := trivial
  repeat' first | (with_reducible first | refine q01 ?_ | refine q11 ?_ | refine q12 ?_) | (with_reducible refine DT_regionE [0,1,4,5,7,8,9,16] ?_; simp -dsimp [hs])
  all_goals try simp -dsimp [hs]
  all_goals try clear hs
  refine DT_loop (ι := { k : Nat // k ≤ l.length ∧ ∀ j x, j < k → l[j]? = some x → p x = false }) (fun i => ⟨19, [(0, .one (.im (.sl (l.map encNote)))), (1, .one (.fn (.func k) caps)), (7, iv (l.length : Int)), (8, iv (i.1 : Int))], objs⟩) (fun i => l.length - i.1) ⟨0, by simp⟩ (Weak.of_keep [0,1,7,8] (by simp)) ?_
  rintro ⟨i, hi, hno⟩
  simp only [iv]
  by_cases hlt : i < l.length
  · have hx : l[i]? = some l[i] := by simp [hlt]
    have hw : IntKind.i64.wrap ((i : Int) + 1) = ((i + 1 : Nat) : Int) := i64w (by omega) (by omega)
    have hc := hf l[i] (by simp)
    simp only [notev, encNote, List.map_cons, List.map_nil, bv, rI] at hc
    have hs : True := trivial
    repeat' first | (with_reducible first | refine q01 ?_ | refine q02 ?_ | refine q03 ?_ | refine q04 ?_ | refine q05 ?_ | refine q06 ?_ | refine q11 ?_ | refine q12 ?_ | refine q14 ?_ | refine q16 ?_ | refine q17 ?_ | refine And.intro (by omega) ?_) | (with_reducible refine At.fn_ret (by simp -dsimp [hx, hw, hok, hs]; exact rfl) ?_) | (refine CallE.here hc ?_; try simp -dsimp [hx, hw, hok, hs]) | (with_reducible refine DT_regionE [0,1,4,5,7,8,9,16] ?_; simp -dsimp [hx, hw, hok, hs]) | (refine DT_cond rfl (fun h => ?_) (fun h => ?_) <;> (try simp only [nrm] at h) <;> (try exact Bool.noConfusion h)) | with_reducible refine And.intro ?_ ?_
    all_goals try simp -dsimp [hx, hw, hok, hs]
    all_goals try clear hs
    all_goals try omega
    · exact (fidx_yes hx (by assumption) hno).symm
    · exact At.round ⟨i + 1, by omega, fun j x hj hjx => by
        by_cases e : j = i
        · subst e; rw [hx] at hjx; cases hjx; assumption
        · exact hno j x (by omega) hjx⟩ (by simp; omega) (Weak.of_keep [0,1,7,8] (by simp))
  · have hs : True := trivial
    repeat' first | (with_reducible first | refine q01 ?_ | refine q03 ?_ | refine q06 ?_ | refine q11 ?_ | refine q12 ?_ | refine q14 ?_ | refine q16 ?_ | refine q17 ?_) | (with_reducible refine At.fn_ret (by simp -dsimp [hs]; exact rfl) ?_) | (with_reducible refine DT_regionE [0,1,4,5,7,8,9,16] ?_; simp -dsimp [hs]) | (refine DT_cond rfl (fun h => ?_) (fun h => ?_) <;> (try simp only [nrm] at h) <;> (try exact Bool.noConfusion h)) | with_reducible refine And.intro ?_ ?_
    all_goals try simp -dsimp [hs]
    all_goals try clear hs
    all_goals try omega
    exact (fidx_no fun j x hjx => hno j x (by have := lt_of_getElem? hjx; omega) hjx).symm
theorem containsFunc_note (l : List Note) (p : Note → Bool) (k : Nat) (caps : List DC) (objs : List DObj) (hok : CallOk Tryd.prog k) (hf : ∀ x ∈ l, DCall Tryd.prog G k (notev x :: caps.map .one) objs (fun d o => d = bv (p x) ∧ o = objs)) (hl : l.length < 1000000) : DCall Tryd.prog G 119 [.one (.im (.sl (l.map encNote))), .one (.fn (.func k) caps)] objs (fun d o => d = bv (l.any p) ∧ o = objs) := by
  refine DCall_intro Tryd.func119 rfl Tryd.ntmps119 (by simp) rfl ?_
  have hc := indexFunc_note l p k caps objs hok hf hl
  have hs : True := trivial
  repeat' first | (with_reducible first | refine q01 ?_ | refine q11 ?_ | refine q17 ?_) | (with_reducible refine At.fn_ret (by simp -dsimp [hs]; exact rfl) ?_) | (refine CallE.here hc ?_; try simp -dsimp [hs]) | (with_reducible refine DT_regionE [0,1,4] ?_; simp -dsimp [hs]) | with_reducible refine And.intro ?_ ?_
  all_goals try simp -dsimp [hs]
  all_goals try clear hs
  simp [fidx_nonneg]
def nk5 (x : Note) : Bool := decide (2 ≤ x.letter) || !x.useUp && decide (x.ways = 0)
theorem nk5_c (n : Notes) (i : Nat) (x : Note) (hx : n.notes[i]? = some x) (objs : List DObj) : DCall Tryd.prog G 117 [notesv n, iv (i : Int)] objs (fun rr objs' => rr = bv (nk5 x) ∧ objs' = objs) := by
  refine DCall.frame ?_ (by simp) (by simp) objs
  refine DCall_intro Tryd.func117 rfl Tryd.ntmps117 (by simp) rfl ?_
  try simp only [notesv, iv]
  have hi : i < n.notes.length := lt_of_getElem? hx
  have hxe : n.notes[i] = x := (List.getElem?_eq_some_iff.1 hx).2
  have hs : True := trivial
  repeat' first | (with_reducible first | refine q01 ?_ | refine q11 ?_ | refine q17 ?_) | (with_reducible refine At.fn_ret (by simp -dsimp [hxe, hi, hs]; exact rfl) ?_) | (with_reducible refine DT_regionE [0,1,2,4,5] ?_; simp -dsimp [hxe, hi, hs]) | (with_reducible refine GStop_split ?_ ?_ <;> intro h <;> have h0 := h <;> (try simp only [nrm] at h) <;> (try exact Bool.noConfusion h) <;> have h2 := h <;> (try simp at h2) <;> (replace hs := And.intro h0 (And.intro h (And.intro h2 hs))) <;> simp -dsimp [h0, h, h2, hxe, hi, hs])
  all_goals try simp -dsimp [hxe, hi, hs]
  all_goals try clear hs
  all_goals (clear hx; simp_all [nk5])
  all_goals omega
theorem nk61_c (n : Notes) (x y : Note) : DCall Tryd.prog G 120 (notev y :: [DC.ptr 1 0].map .one) [.row ((encNotes n).map .im), .row ((encNote x).map .im)] (fun d o => d = bv (decide (y.number = x.cancels)) ∧ o = [.row ((encNotes n).map .im), .row ((encNote x).map .im)]) := by
  refine DCall.drop ?_
  refine DCall_intro Tryd.func120 rfl Tryd.ntmps120 (by simp) rfl ?_
  simp only [notev, encNote, encNotes, rI, rB]
  have hs : True := trivial
  repeat' first | (with_reducible first | refine q01 ?_ | refine q11 ?_ | refine q17 ?_) | (with_reducible refine At.fn_ret (by simp -dsimp [hs]; exact rfl) ?_) | (with_reducible refine DT_regionE [0,1,2,3] ?_; simp -dsimp [hs]) | with_reducible refine And.intro ?_ ?_
  all_goals try simp -dsimp [hs]
  all_goals try clear hs
def nk6 (l : List Note) (i : Nat) (x : Note) : Bool := decide (x.cancels = 0) || (l.take i).any fun y => decide (y.number = x.cancels)
theorem nk6_c (n : Notes) (i : Nat) (x : Note) (hx : n.notes[i]? = some x) (hl : n.notes.length < 1000) (objs : List DObj) : DCall Tryd.prog G 118 [notesv n, iv (i : Int)] objs (fun rr objs' => rr = bv (nk6 n.notes i x) ∧ objs' = objs) := by
  refine DCall.frame ?_ (by simp) (by simp) objs
  refine DCall_intro Tryd.func118 rfl Tryd.ntmps118 (by simp) rfl ?_
  try simp only [notesv, iv]
  have hi : i < n.notes.length := lt_of_getElem? hx
  have hxe : n.notes[i] = x := (List.getElem?_eq_some_iff.1 hx).2
  have hlt : (n.notes.take i).length < 1000000 := by simp; omega
  have hil : i ≤ n.notes.length := by omega
  have c1 := containsFunc_note (G := G) (n.notes.take i) (fun y => decide (y.number = x.cancels)) 120 [.ptr 1 0] [.row ((encNotes n).map .im), .row ((encNote x).map .im)] (by simp) (fun y _ => nk61_c n x y) hlt
  simp only [encNote, encNotes, rI, rB, List.map_take, List.map_cons, List.map_nil] at c1
  have hs : True := trivial
  repeat' first | (with_reducible first | refine q01 ?_ | refine q11 ?_ | refine q17 ?_) | (with_reducible refine At.fn_ret (by simp -dsimp [hxe, hi, hil, hs]; exact rfl) ?_) | (refine CallE.here (c1) ?_; try simp -dsimp [hxe, hi, hil, hs]) | (with_reducible refine DT_regionE [0,1,2,4,5] ?_; simp -dsimp [hxe, hi, hil, hs]) | (with_reducible refine GStop_split ?_ ?_ <;> intro h <;> have h0 := h <;> (try simp only [nrm] at h) <;> (try exact Bool.noConfusion h) <;> have h2 := h <;> (try simp at h2) <;> (replace hs := And.intro h0 (And.intro h (And.intro h2 hs))) <;> simp -dsimp [h0, h, h2, hxe, hi, hil, hs])
  all_goals try simp -dsimp [hxe, hi, hil, hs]
  all_goals try clear hs
  all_goals (clear hx c1; simp_all [nk6])
theorem nk71_c (n : Notes) (i : Nat) (x y : Note) (hx : n.notes[i]? = some x) : DCall Tryd.prog G 122 (notev y :: [DC.ptr 0 0, DC.ptr 1 0].map .one) [.row ((encNotes n).map .im), .row [.im (rI (i : Int))]] (fun d o => d = bv (decide (y.number = x.number)) ∧ o = [.row ((encNotes n).map .im), .row [.im (rI (i : Int))]]) := by
  have hi : i < n.notes.length := lt_of_getElem? hx
  have hxe : n.notes[i] = x := (List.getElem?_eq_some_iff.1 hx).2
  refine DCall.drop ?_
  refine DCall_intro Tryd.func122 rfl Tryd.ntmps122 (by simp) rfl ?_
  simp only [notev, encNote, encNotes, rI, rB]
  have hs : True := trivial
  repeat' first | (with_reducible first | refine q01 ?_ | refine q11 ?_ | refine q17 ?_) | (with_reducible refine At.fn_ret (by simp -dsimp [hxe, hi, hs]; exact rfl) ?_) | (refine DT_regionM (id := 1) (nt := 14) 10 [0,1,2,3,4] mixed rfl (by kernel_rfl) ?_; simp -dsimp [hxe, hi, hs]) | (with_reducible refine DT_regionE [0,1,2,3,4] ?_; simp -dsimp [hxe, hi, hs]) | with_reducible refine And.intro ?_ ?_
  all_goals try simp -dsimp [hxe, hi, hs]
  all_goals try clear hs
def nk7 (l : List Note) (i : Nat) (x : Note) : Bool := !(l.take i).any fun y => decide (y.number = x.number)
theorem nk7_c (n : Notes) (i : Nat) (x : Note) (hx : n.notes[i]? = some x) (hl : n.notes.length < 1000) (objs : List DObj) : DCall Tryd.prog G 121 [notesv n, iv (i : Int)] objs (fun rr objs' => rr = bv (nk7 n.notes i x) ∧ objs' = objs) := by
  refine DCall.frame ?_ (by simp) (by simp) objs
  refine DCall_intro Tryd.func121 rfl Tryd.ntmps121 (by simp) rfl ?_
  try simp only [notesv, iv]
  have hi : i < n.notes.length := lt_of_getElem? hx
  have hlt : (n.notes.take i).length < 1000000 := by simp; omega
  have hil : i ≤ n.notes.length := by omega
  have c1 := containsFunc_note (G := G) (n.notes.take i) (fun y => decide (y.number = x.number)) 122 [.ptr 0 0, .ptr 1 0] [.row ((encNotes n).map .im), .row [.im (rI (i : Int))]] (by simp) (fun y _ => nk71_c n i x y hx) hlt
  simp only [encNote, encNotes, rI, rB, List.map_take, List.map_cons, List.map_nil] at c1
  have hs : True := trivial
  repeat' first | (with_reducible first | refine q01 ?_ | refine q11 ?_ | refine q17 ?_) | (with_reducible refine At.fn_ret (by simp -dsimp [hi, hil, hs]; exact rfl) ?_) | (refine CallE.here (c1) ?_; try simp -dsimp [hi, hil, hs]) | (with_reducible refine DT_regionE [0,1,2,3,4] ?_; simp -dsimp [hi, hil, hs])
  all_goals try simp -dsimp [hi, hil, hs]
  all_goals try clear hs
  all_goals (clear hx c1; simp_all [nk7])
def orI : List Int → Int
  | [] => 0
  | x :: r => if x = 0 then orI r else x
theorem or_c (l : List Int) (hl : l.length < 1000000) (objs : List DObj) : DCall Tryd.prog G 124 [isv l] objs (fun rr objs' => rr = iv (orI l) ∧ objs' = objs) := by
  refine DCall.frame ?_ (by simp) (by simp) objs
  refine DCall_intro Tryd.func124 rfl Tryd.ntmps124 (by simp) rfl ?_
  try simp only [isv]
  have hs : True := trivial
  repeat' first | (with_reducible first | refine q01 ?_ | refine q11 ?_ | refine q12 ?_) | (with_reducible refine DT_regionE [0,2,3,5,6,7,8,9,14] ?_; simp -dsimp [hs])
  all_goals try simp -dsimp [hs]
  all_goals try clear hs
  refine DT_loop (ι := { p : Nat // p ≤ l.length ∧ orI l = orI (l.drop p) }) (fun p => ⟨18, [(3, iv 0), (6, .one (.im (.sl (l.map encI)))), (7, iv (l.length : Int)), (8, iv (p.1 : Int))], []⟩) (fun p => l.length - p.1) ⟨0, by simp⟩ (Weak.of_keep [3,6,7,8] (by simp)) ?_
  rintro ⟨k, hk, hu⟩
  simp only [iv]
  by_cases hlt : k < l.length
  · have hw : IntKind.i64.wrap ((k : Int) + 1) = ((k + 1 : Nat) : Int) := i64w (by omega) (by omega)
    rw [List.drop_eq_getElem_cons hlt, orI] at hu
    generalize hx : l[k] = x at *
    have hs : True := trivial
    repeat' first | (with_reducible first | refine q01 ?_ | refine q02 ?_ | refine q04 ?_ | refine q05 ?_ | refine q11 ?_ | refine q12 ?_ | refine q14 ?_ | refine q17 ?_) | (with_reducible refine At.fn_ret (by simp -dsimp [hx, hw, hlt, hs]; exact rfl) ?_) | (with_reducible refine DT_regionE [0,2,3,5,6,7,8,9,14] ?_; simp -dsimp [hx, hw, hlt, hs]) | (refine DT_cond rfl (fun h => ?_) (fun h => ?_) <;> (try simp only [nrm] at h) <;> (try exact Bool.noConfusion h))
    all_goals try simp -dsimp [hx, hw, hlt, hs]
    all_goals try clear hs
    · rw [hu, if_neg (by assumption)]
    · rw [if_pos (by assumption)] at hu
      exact At.round ⟨k + 1, by omega, hu⟩ (by simp; omega) (Weak.of_keep [3,6,7,8] (by simp))
  · rw [List.drop_eq_nil_of_le (by omega)] at hu
    have hs : True := trivial
    repeat' first | (with_reducible first | refine q01 ?_ | refine q03 ?_ | refine q06 ?_ | refine q11 ?_ | refine q16 ?_ | refine q17 ?_) | (with_reducible refine At.fn_ret (by simp -dsimp [hlt, hs]; exact rfl) ?_) | (with_reducible refine DT_regionE [0,2,3,5,6,7,8,9,14] ?_; simp -dsimp [hlt, hs]) | (refine DT_cond rfl (fun h => ?_) (fun h => ?_) <;> (try simp only [nrm] at h) <;> (try exact Bool.noConfusion h))
    all_goals try simp -dsimp [hlt, hs]
    all_goals try clear hs
    rw [hu]; rfl
end Go.Proofs
