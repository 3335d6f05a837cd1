/- Part 18 of the proof whose last text closes the card: laws and walks that hold without conditions beyond those that each theorem names. -/
import Derived.Test.YtmonmfpdckdoiaaDoorB17
set_option linter.all false
set_option linter.deprecated false
namespace Go.Proofs
open Go Go.Ab
set_option linter.unusedSimpArgs false
variable {G : Nat → Option (List IC)}
theorem seg_ge {l : List Issue} {d : Int} (hs : (l.map (·.drawing)).Pairwise (· ≤ ·)) : ∀ x ∈ l.drop (lb (l.map (·.drawing)) d), d ≤ x.drawing := by
  intro x hx
  obtain ⟨i, hi⟩ := List.mem_iff_getElem?.1 hx
  rw [List.getElem?_drop] at hi
  have := lb_spec (x := d) hs _ x.drawing (by rw [List.getElem?_map, hi]; rfl)
  omega
theorem seg_lt {l : List Issue} {d : Int} (hs : (l.map (·.drawing)).Pairwise (· ≤ ·)) : ∀ x ∈ l.take (lb (l.map (·.drawing)) d), x.drawing < d := by
  intro x hx
  obtain ⟨i, hi⟩ := List.mem_iff_getElem?.1 hx
  have hlt : i < lb (l.map (·.drawing)) d := by
    have := (List.getElem?_eq_some_iff.1 hi).1
    simp at this; omega
  rw [List.getElem?_take_of_lt hlt] at hi
  exact (lb_spec (x := d) hs i x.drawing (by rw [List.getElem?_map, hi]; rfl)).2 hlt
theorem seg_find {l : List Issue} {d : Int} (lt : Int) (hs : (l.map (·.drawing)).Pairwise (· ≤ ·)) : findI l d lt = findI (l.drop (lb (l.map (·.drawing)) d)) d lt := by
  conv => lhs; rw [← List.take_append_drop (lb (l.map (·.drawing)) d) l]
  simp only [findI, List.find?_append]
  rw [List.find?_eq_none.2 fun x hx => ?_]
  · rfl
  · have := seg_lt hs x hx
    simp; omega
theorem bfind_c (l : List Issue) (ds : List Int) (d lt : Int) (hs : (l.map (·.drawing)).Pairwise (· ≤ ·)) (hl : l.length < 1000000) (objs : List DObj) : DCall Tryd.prog G 119 [.one (.im (bookI l ds)), refv d lt] objs (fun rr objs' => rr = .tup [issv ((findI l d lt).getD zIssue), bv (findI l d lt).isSome] ∧ objs' = objs) := by
  refine DCall.frame ?_ (by simp) (by simp) objs
  refine DCall_intro Tryd.func119 rfl Tryd.ntmps119 (by simp) rfl ?_
  try simp only [refv]
  simp only [refv, bookI]
  have c1 := issues_c (G := G) (bookI l ds) d
  simp only [bookI] at c1
  have hs : True := trivial
  repeat' first | (with_reducible first | refine q01 ?_ | refine q02 ?_ | refine q03 ?_ | refine q04 ?_ | refine q05 ?_ | refine q06 ?_ | refine q07 (by decide) ?_ | refine q08 ?_ | refine q09 ?_ | refine q10 ?_ | refine q11 ?_ | refine q12 ?_ | refine q13 ?_ | refine q14 ?_ | refine q15 ?_ | refine q16 ?_ | refine q17 ?_ | refine And.intro (by omega) ?_) | (with_reducible refine At.fn_ret (by simp -dsimp [hs]; exact rfl) ?_) | (with_reducible refine At.fn_end (by simp -dsimp [hs]; exact rfl) ?_) | (refine CallE.pure (c1) ?_; try simp -dsimp [hs]) | (refine DT_regionM (id := 3) (nt := 18) 4 [0, 1, 3, 4, 5, 6, 10, 11, 15] mixed rfl (by kernel_rfl) ?_; simp -dsimp [hs]) | (with_reducible refine DT_regionE [0, 1, 3, 4, 5, 6, 10, 11, 15] ?_; simp -dsimp [hs]) | (refine DT_cond rfl (fun h => ?_) (fun h => ?_) <;> (try simp only [nrm] at h) <;> (try exact Bool.noConfusion h)) | (with_reducible refine GStop_split ?_ ?_ <;> intro h <;> have h0 := h <;> (try simp only [nrm] at h) <;> (try exact Bool.noConfusion h) <;> have h2 := h <;> (try simp at h2) <;> (replace hs := And.intro h0 (And.intro h (And.intro h2 hs))) <;> simp -dsimp [h0, h, h2, hs]) | (with_reducible refine imp_At (fun h => ?_); (try simp only [List.map_eq_nil_iff] at h); (try subst h); try simp -dsimp [hs]) | with_reducible refine And.intro ?_ ?_
  all_goals try simp -dsimp [hs]
  all_goals try clear hs
  refine DT_rangeFunc (f := 161) (by simp; exact rfl) (by rfl) Tryd.call161 ?_
  generalize hR : LoopD.mk _ _ _ _ _ _ _ = R
  have hR1 : R.st = .ready := by rw [← hR]
  have hR2 : R.pend = none := by rw [← hR]
  have hR3 : R.at .ready none = R := by rw [← hR]; rfl
  have hR4 := (congrArg LoopD.nt hR).symm
  have hR5 := (congrArg LoopD.tm hR).symm
  have hR6 := (congrArg LoopD.ps hR).symm
  have hR7 := (congrArg LoopD.asg hR).symm
  have hR8 := (congrArg LoopD.body hR).symm
  dsimp only at hR4 hR5 hR6 hR7 hR8
  clear hR
  refine DCall_intro Tryd.func161 rfl Tryd.ntmps161 (by simp) rfl ?_
  have hR9 : ∀ objs : List DObj, (R.tm.map fun x => (x.1, fzV 6 objs x.2)) = R.tm := by intro objs; rw [hR5]; simp
  have hlb := lb_le (l.map (·.drawing)) d
  rw [List.length_map] at hlb
  have c2 := bsearchI_c (G := G) l d hs hl
  have hs : True := trivial
  repeat' first | (with_reducible first | refine q01 ?_ | refine q02 ?_ | refine q03 ?_ | refine q04 ?_ | refine q05 ?_ | refine q06 ?_ | refine q07 (by decide) ?_ | refine q08 ?_ | refine q09 ?_ | refine q10 ?_ | refine q11 ?_ | refine q12 ?_ | refine q13 ?_ | refine q14 ?_ | refine q15 ?_ | refine q16 ?_ | refine q17 ?_ | refine And.intro (by omega) ?_) | (with_reducible refine At.fn_ret (by simp -dsimp [hR1, hR2, hR3, hlb, hs]; exact rfl) ?_) | (with_reducible refine At.fn_end (by simp -dsimp [hR1, hR2, hR3, hlb, hs]; exact rfl) ?_) | (with_reducible refine At.yield_end ?_; simp -dsimp [hR1, hR2, hR3, hlb, hs]) | (with_reducible refine At.yield_ret ?_; simp -dsimp [hR1, hR2, hR3, hlb, hs]) | (with_reducible refine At.yield_exit ?_; simp -dsimp [hR1, hR2, hR3, hlb, hs]) | (refine At_busy ?_ ?_ <;> simp -dsimp [hR1, hR2, hR3, hlb, hs]) | (refine YieldE_go ?_; simp -dsimp [YieldR, hR4, hR5, hR6, hR7, hR8, hR1, hR2, hR3, hlb, hs]) | (with_reducible show LoopR _ _ _ _ _ _ _ _; simp -dsimp [LoopR, hR1, hR2, hR3, hlb, hs]) | (refine QCall_pure (c2) ?_; try simp -dsimp [hR1, hR2, hR3, hlb, hs]) | (refine DT_regionM (id := 0) (nt := 41) 12 [0, 1, 2, 4, 7, 24, 25, 26, 27, 39] mixed rfl (by kernel_rfl) ?_; simp -dsimp [hR1, hR2, hR3, hlb, hs]) | (refine DT_regionM (id := 3) (nt := 18) 4 [0, 1, 3, 4, 5, 6, 10, 11, 15] mixed rfl (by kernel_rfl) ?_; simp -dsimp [hR1, hR2, hR3, hlb, hs]) | (with_reducible refine DT_regionE [0, 1, 2, 3, 4, 5, 6, 7, 10, 11, 15, 24, 25, 26, 27, 39] ?_; simp -dsimp [hR1, hR2, hR3, hlb, hs]) | (refine DT_cond rfl (fun h => ?_) (fun h => ?_) <;> (try simp only [nrm] at h) <;> (try exact Bool.noConfusion h)) | (with_reducible refine GStop_split ?_ ?_ <;> intro h <;> have h0 := h <;> (try simp only [nrm] at h) <;> (try exact Bool.noConfusion h) <;> have h2 := h <;> (try simp at h2) <;> (replace hs := And.intro h0 (And.intro h (And.intro h2 hs))) <;> simp -dsimp [h0, h, h2, hR1, hR2, hR3, hlb, hs]) | (with_reducible refine imp_At (fun h => ?_); (try simp only [List.map_eq_nil_iff] at h); (try subst h); try simp -dsimp [hR1, hR2, hR3, hlb, hs]) | with_reducible refine And.intro ?_ ?_
  all_goals try simp -dsimp [hR1, hR2, hR3, hlb, hs]
  all_goals try clear hs
  rw [← List.map_drop]
  have hge := seg_ge (d := d) hs
  have hfs := seg_find (d := d) lt hs
  have hss : ((l.drop (lb (l.map (·.drawing)) d)).map (·.drawing)).Pairwise (· ≤ ·) := by rw [List.map_drop]; exact hs.drop
  have hsl : l.length - lb (l.map (·.drawing)) d = (l.drop (lb (l.map (·.drawing)) d)).length := by simp
  rw [hsl]
  have hsl2 : (l.drop (lb (l.map (·.drawing)) d)).length < 1000000 := by simp; omega
  generalize l.drop (lb (l.map (·.drawing)) d) = s at hge hfs hss hsl2 ⊢
  refine DT_loop (ι := { k : Nat // k ≤ s.length ∧ findI l d lt = findI (s.drop k) d lt }) (fun p => ⟨41, [(0, .one (.yld 5)), (2, .one (.im (.ip [rI d]))), (24, .one (.im (.sl (s.map encIssue)))), (25, iv (s.length : Int)), (26, iv (p.1 : Int))], [.row [.im (rI d), .im (rI lt)], .vec 0 [] 0 true, .vec 0 [] 0 true, .row ((rI 0 :: rI 0 :: [IC.raw (.int .u8 0)]).map .im ++ [.vec 1 0 0 0, .vec 2 0 0 0]), .row [.im (rB false)], .loop R]⟩) (fun p => s.length - p.1) ⟨0, by simp [hfs]⟩ (Weak.of_keep [0,2,24,25,26] (by simp)) ?_
  rintro ⟨k, hk, hno⟩
  simp only [iv]
  by_cases hlt : k < s.length
  · have hx : s[k]? = some s[k] := by simp [hlt]
    have hw : IntKind.i64.wrap ((k : Int) + 1) = ((k + 1 : Nat) : Int) := i64w (by omega) (by omega)
    have hcons : findI l d lt = if (s[k].drawing == d && s[k].letter == lt) = true then some s[k] else findI (s.drop (k + 1)) d lt := by
      rw [hno, List.drop_eq_getElem_cons hlt]
      simp only [findI, List.find?_cons]
      split <;> simp_all
    by_cases hd : s[k].drawing = d
    · have c3 := sheetName_c (G := G) s[k]
      simp only [refI, issv, encIssue, rI, List.map_cons, List.map_nil, hd] at c3
      have hs : True := trivial
      repeat' first | (with_reducible first | refine q01 ?_ | refine q02 ?_ | refine q03 ?_ | refine q04 ?_ | refine q05 ?_ | refine q06 ?_ | refine q07 (by decide) ?_ | refine q08 ?_ | refine q09 ?_ | refine q10 ?_ | refine q11 ?_ | refine q12 ?_ | refine q13 ?_ | refine q14 ?_ | refine q15 ?_ | refine q16 ?_ | refine q17 ?_ | refine And.intro (by omega) ?_) | (with_reducible refine At.fn_ret (by simp -dsimp [hR1, hR2, hR3, hx, hw, hd, hlt, hs]; exact rfl) ?_) | (with_reducible refine At.fn_end (by simp -dsimp [hR1, hR2, hR3, hx, hw, hd, hlt, hs]; exact rfl) ?_) | (with_reducible refine At.yield_end ?_; simp -dsimp [hR1, hR2, hR3, hx, hw, hd, hlt, hs]) | (with_reducible refine At.yield_ret ?_; simp -dsimp [hR1, hR2, hR3, hx, hw, hd, hlt, hs]) | (with_reducible refine At.yield_exit ?_; simp -dsimp [hR1, hR2, hR3, hx, hw, hd, hlt, hs]) | (refine At_busy ?_ ?_ <;> simp -dsimp [hR1, hR2, hR3, hx, hw, hd, hlt, hs]) | (refine YieldE_go ?_; simp -dsimp [YieldR, hR4, hR5, hR6, hR7, hR8, hR1, hR2, hR3, hx, hw, hd, hlt, hs]) | (with_reducible show LoopR _ _ _ _ _ _ _ _; simp -dsimp [LoopR, hR1, hR2, hR3, hx, hw, hd, hlt, hs]) | (refine QCall_pure (c3) ?_; try simp -dsimp [hR1, hR2, hR3, hx, hw, hd, hlt, hs]) | (refine DT_regionM (id := 0) (nt := 41) 12 [0, 1, 2, 4, 7, 24, 25, 26, 27, 39] mixed rfl (by kernel_rfl) ?_; simp -dsimp [hR1, hR2, hR3, hx, hw, hd, hlt, hs]) | (refine DT_regionM (id := 3) (nt := 18) 4 [0, 1, 3, 4, 5, 6, 10, 11, 15] mixed rfl (by kernel_rfl) ?_; simp -dsimp [hR1, hR2, hR3, hx, hw, hd, hlt, hs]) | (with_reducible refine DT_regionE [0, 1, 2, 3, 4, 5, 6, 7, 10, 11, 15, 24, 25, 26, 27, 39] ?_; simp -dsimp [hR1, hR2, hR3, hx, hw, hd, hlt, hs]) | (refine DT_cond rfl (fun h => ?_) (fun h => ?_) <;> (try simp only [nrm] at h) <;> (try exact Bool.noConfusion h)) | (with_reducible refine GStop_split ?_ ?_ <;> intro h <;> have h0 := h <;> (try simp only [nrm] at h) <;> (try exact Bool.noConfusion h) <;> have h2 := h <;> (try simp at h2) <;> (replace hs := And.intro h0 (And.intro h (And.intro h2 hs))) <;> simp -dsimp [h0, h, h2, hR1, hR2, hR3, hx, hw, hd, hlt, hs]) | (with_reducible refine imp_At (fun h => ?_); (try simp only [List.map_eq_nil_iff] at h); (try subst h); try simp -dsimp [hR1, hR2, hR3, hx, hw, hd, hlt, hs]) | with_reducible refine And.intro ?_ ?_
      all_goals try simp -dsimp [hR1, hR2, hR3, hx, hw, hd, hlt, hs]
      all_goals try clear hs
      · have h : s[k].letter = lt := by assumption
        have hf : findI l d lt = some s[k] := by rw [hcons, if_pos (by simp [hd, h])]
        simp [hf, hd]
      · have h : ¬ s[k].letter = lt := by assumption
        have hf : findI l d lt = findI (s.drop (k + 1)) d lt := by rw [hcons, if_neg (by simp [hd, h])]
        exact At.round ⟨k + 1, by omega, hf⟩ (by simp; omega) (Weak.of_drop [0,2,24,25,26] 6 (by simp) (by simp) (by simp [hR9]))
    · have hnone : findI l d lt = none := by
        rw [hno, findI, List.find?_eq_none]
        intro x hxm
        obtain ⟨i, hi⟩ := List.mem_iff_getElem?.1 hxm
        rw [List.getElem?_drop] at hi
        have h1 : s[k].drawing ≤ x.drawing := by
          rcases Nat.eq_zero_or_pos i with rfl | hp
          · rw [Nat.add_zero, hx] at hi; cases hi; exact Int.le_refl _
          · have hlt2 := (List.getElem?_eq_some_iff.1 hi).1
            have := (List.pairwise_iff_getElem.1 hss) k (k + i) (by simpa using hlt) (by simpa using hlt2) (by omega)
            have h6 := (List.getElem?_eq_some_iff.1 hi).2
            simp at this; rw [h6] at this; exact this
        have h2 := hge s[k] (List.getElem_mem hlt)
        simp; omega
      have hs : True := trivial
      repeat' first | (with_reducible first | refine q01 ?_ | refine q02 ?_ | refine q03 ?_ | refine q04 ?_ | refine q05 ?_ | refine q06 ?_ | refine q07 (by decide) ?_ | refine q08 ?_ | refine q09 ?_ | refine q10 ?_ | refine q11 ?_ | refine q12 ?_ | refine q13 ?_ | refine q14 ?_ | refine q15 ?_ | refine q16 ?_ | refine q17 ?_ | refine And.intro (by omega) ?_) | (with_reducible refine At.fn_ret (by simp -dsimp [hR1, hR2, hR3, hx, hw, hd, hlt, hs]; exact rfl) ?_) | (with_reducible refine At.fn_end (by simp -dsimp [hR1, hR2, hR3, hx, hw, hd, hlt, hs]; exact rfl) ?_) | (with_reducible refine At.yield_end ?_; simp -dsimp [hR1, hR2, hR3, hx, hw, hd, hlt, hs]) | (with_reducible refine At.yield_ret ?_; simp -dsimp [hR1, hR2, hR3, hx, hw, hd, hlt, hs]) | (with_reducible refine At.yield_exit ?_; simp -dsimp [hR1, hR2, hR3, hx, hw, hd, hlt, hs]) | (refine At_busy ?_ ?_ <;> simp -dsimp [hR1, hR2, hR3, hx, hw, hd, hlt, hs]) | (refine YieldE_go ?_; simp -dsimp [YieldR, hR4, hR5, hR6, hR7, hR8, hR1, hR2, hR3, hx, hw, hd, hlt, hs]) | (with_reducible show LoopR _ _ _ _ _ _ _ _; simp -dsimp [LoopR, hR1, hR2, hR3, hx, hw, hd, hlt, hs]) | (refine DT_regionM (id := 0) (nt := 41) 12 [0, 1, 2, 4, 7, 24, 25, 26, 27, 39] mixed rfl (by kernel_rfl) ?_; simp -dsimp [hR1, hR2, hR3, hx, hw, hd, hlt, hs]) | (refine DT_regionM (id := 3) (nt := 18) 4 [0, 1, 3, 4, 5, 6, 10, 11, 15] mixed rfl (by kernel_rfl) ?_; simp -dsimp [hR1, hR2, hR3, hx, hw, hd, hlt, hs]) | (with_reducible refine DT_regionE [0, 1, 2, 3, 4, 5, 6, 7, 10, 11, 15, 24, 25, 26, 27, 39] ?_; simp -dsimp [hR1, hR2, hR3, hx, hw, hd, hlt, hs]) | (refine DT_cond rfl (fun h => ?_) (fun h => ?_) <;> (try simp only [nrm] at h) <;> (try exact Bool.noConfusion h)) | (with_reducible refine GStop_split ?_ ?_ <;> intro h <;> have h0 := h <;> (try simp only [nrm] at h) <;> (try exact Bool.noConfusion h) <;> have h2 := h <;> (try simp at h2) <;> (replace hs := And.intro h0 (And.intro h (And.intro h2 hs))) <;> simp -dsimp [h0, h, h2, hR1, hR2, hR3, hx, hw, hd, hlt, hs]) | (with_reducible refine imp_At (fun h => ?_); (try simp only [List.map_eq_nil_iff] at h); (try subst h); try simp -dsimp [hR1, hR2, hR3, hx, hw, hd, hlt, hs]) | with_reducible refine And.intro ?_ ?_
      all_goals try simp -dsimp [hR1, hR2, hR3, hx, hw, hd, hlt, hs]
      all_goals try clear hs
      all_goals simp [hnone, zIssue]
  · have hnone : findI l d lt = none := by rw [hno, List.drop_eq_nil_of_le (by omega)]; rfl
    have hs : True := trivial
    repeat' first | (with_reducible first | refine q01 ?_ | refine q02 ?_ | refine q03 ?_ | refine q04 ?_ | refine q05 ?_ | refine q06 ?_ | refine q07 (by decide) ?_ | refine q08 ?_ | refine q09 ?_ | refine q10 ?_ | refine q11 ?_ | refine q12 ?_ | refine q13 ?_ | refine q14 ?_ | refine q15 ?_ | refine q16 ?_ | refine q17 ?_ | refine And.intro (by omega) ?_) | (with_reducible refine At.fn_ret (by simp -dsimp [hR1, hR2, hR3, hlt, hs]; exact rfl) ?_) | (with_reducible refine At.fn_end (by simp -dsimp [hR1, hR2, hR3, hlt, hs]; exact rfl) ?_) | (with_reducible refine At.yield_end ?_; simp -dsimp [hR1, hR2, hR3, hlt, hs]) | (with_reducible refine At.yield_ret ?_; simp -dsimp [hR1, hR2, hR3, hlt, hs]) | (with_reducible refine At.yield_exit ?_; simp -dsimp [hR1, hR2, hR3, hlt, hs]) | (refine At_busy ?_ ?_ <;> simp -dsimp [hR1, hR2, hR3, hlt, hs]) | (refine YieldE_go ?_; simp -dsimp [YieldR, hR4, hR5, hR6, hR7, hR8, hR1, hR2, hR3, hlt, hs]) | (with_reducible show LoopR _ _ _ _ _ _ _ _; simp -dsimp [LoopR, hR1, hR2, hR3, hlt, hs]) | (refine DT_regionM (id := 0) (nt := 41) 12 [0, 1, 2, 4, 7, 24, 25, 26, 27, 39] mixed rfl (by kernel_rfl) ?_; simp -dsimp [hR1, hR2, hR3, hlt, hs]) | (refine DT_regionM (id := 3) (nt := 18) 4 [0, 1, 3, 4, 5, 6, 10, 11, 15] mixed rfl (by kernel_rfl) ?_; simp -dsimp [hR1, hR2, hR3, hlt, hs]) | (with_reducible refine DT_regionE [0, 1, 2, 3, 4, 5, 6, 7, 10, 11, 15, 24, 25, 26, 27, 39] ?_; simp -dsimp [hR1, hR2, hR3, hlt, hs]) | (refine DT_cond rfl (fun h => ?_) (fun h => ?_) <;> (try simp only [nrm] at h) <;> (try exact Bool.noConfusion h)) | (with_reducible refine GStop_split ?_ ?_ <;> intro h <;> have h0 := h <;> (try simp only [nrm] at h) <;> (try exact Bool.noConfusion h) <;> have h2 := h <;> (try simp at h2) <;> (replace hs := And.intro h0 (And.intro h (And.intro h2 hs))) <;> simp -dsimp [h0, h, h2, hR1, hR2, hR3, hlt, hs]) | (with_reducible refine imp_At (fun h => ?_); (try simp only [List.map_eq_nil_iff] at h); (try subst h); try simp -dsimp [hR1, hR2, hR3, hlt, hs]) | with_reducible refine And.intro ?_ ?_
    all_goals try simp -dsimp [hR1, hR2, hR3, hlt, hs]
    all_goals try clear hs
    all_goals simp [hnone, zIssue]
end Go.Proofs
namespace Go.Ab
open Go
/-! ### Maps of numbers, and sets of numbers -/
def kI (n : Int) : List Value := [.int .i64 n]
def mlook (m : List (Int × Int)) (n : Int) : Int := match m with
  | [] => 0
  | p :: r => if p.1 = n then p.2 else mlook r n
def mput (n v : Int) : List (Int × Int) → List (Int × Int)
  | [] => [(n, v)]
  | p :: r => if p.1 = n then (n, v) :: r else p :: mput n v r
def encM (m : List (Int × Int)) : List (List Value × List DC) := m.map fun p => (kI p.1, [.im (rI p.2)])
def encMI (m : List (Int × Int)) : List (List Value × List IC) := m.map fun p => (kI p.1, [rI p.2])
def encS (l : List Int) : List (List Value × List DC) := l.map fun n => (kI n, [.im (rB true)])
def encSI (l : List Int) : List (List Value × List IC) := l.map fun n => (kI n, [rB true])
def sput (n : Int) (l : List Int) : List Int := if n ∈ l then l else l ++ [n]
theorem beqs_k (n m : Int) : beqs [.int .i64 n] (kI m) = decide (m = n) := by
  simp only [kI, beqs, Bool.and_true]
  rw [Bool.eq_iff_iff]; simp [eq_comm]
@[simp] theorem mget_M (m : List (Int × Int)) (n : Int) : mget [.int .i64 n] (encM m) [.im (.raw (.int .i64 0))] = [.im (.raw (.int .i64 (mlook m n)))] := by
  induction m with
  | nil => rfl
  | cons p r ih =>
    have e : encM (p :: r) = (kI p.1, [.im (rI p.2)]) :: encM r := rfl
    rw [e]
    simp only [mget, mfind, mlook, beqs_k, decide_eq_true_eq] at ih ⊢
    split
    · rfl
    · exact ih
@[simp] theorem mset_M (m : List (Int × Int)) (n v : Int) : mset [.int .i64 n] [.im (.raw (.int .i64 v))] (encM m) = encM (mput n v m) := by
  induction m with
  | nil => rfl
  | cons p r ih =>
    have e : encM (p :: r) = (kI p.1, [.im (rI p.2)]) :: encM r := rfl
    rw [e]
    simp only [mset, mput, beqs_k, decide_eq_true_eq] at ih ⊢
    split
    · rfl
    · rw [ih]; rfl
@[simp] theorem mget_S (l : List Int) (n : Int) : mget [.int .i64 n] (encS l) [.im (.raw (.bool false))] = [.im (.raw (.bool (decide (n ∈ l))))] := by
  induction l with
  | nil => rfl
  | cons p r ih =>
    have e : encS (p :: r) = (kI p, [.im (rB true)]) :: encS r := rfl
    rw [e]
    simp only [mget, mfind, beqs_k, decide_eq_true_eq] at ih ⊢
    split
    · rename_i h; simp [h]
    · rename_i h
      rw [ih]
      have : (n ∈ p :: r) = (n ∈ r) := propext ⟨fun h' => (List.mem_cons.1 h').resolve_left fun e => h e.symm, List.mem_cons_of_mem _⟩
      simp only [this]
@[simp] theorem mset_S (l : List Int) (n : Int) : mset [.int .i64 n] [.im (.raw (.bool true))] (encS l) = encS (sput n l) := by
  have gen : ∀ l : List Int, (n ∈ l → mset [.int .i64 n] [.im (.raw (.bool true))] (encS l) = encS l) ∧ (n ∉ l → mset [.int .i64 n] [.im (.raw (.bool true))] (encS l) = encS (l ++ [n])) := by
    intro l
    induction l with
    | nil => exact ⟨fun h => by simp at h, fun _ => rfl⟩
    | cons p r ih =>
      have e : encS (p :: r) = (kI p, [.im (rB true)]) :: encS r := rfl
      rw [e]
      simp only [mset, beqs_k, decide_eq_true_eq]
      constructor
      · intro h
        split
        · rename_i hp; rw [hp]; rfl
        · rename_i hp
          rw [ih.1 ((List.mem_cons.1 h).resolve_left fun e => hp e.symm)]
      · intro h
        rw [if_neg fun e => h (by simp [e]), ih.2 fun e => h (by simp [e])]; rfl
  unfold sput
  split
  · exact (gen l).1 ‹_›
  · exact (gen l).2 ‹_›
@[simp] theorem mdel_S (l : List Int) (n : Int) : mdel [.int .i64 n] (encS l) = encS (l.erase n) := by
  induction l with
  | nil => rfl
  | cons p r ih =>
    have e : encS (p :: r) = (kI p, [.im (rB true)]) :: encS r := rfl
    rw [e]
    simp only [mdel, beqs_k, decide_eq_true_eq]
    split
    · rename_i h; subst h; simp
    · rename_i h
      rw [ih, List.erase_cons_tail (by simpa using h)]; rfl
@[simp] theorem encS_len (l : List Int) : (encS l).length = l.length := by simp [encS]
@[simp] theorem encM_len (l : List (Int × Int)) : (encM l).length = l.length := by simp [encM]
theorem encM_nil : ([] : List (List Value × List DC)) = encM [] := rfl
theorem encS_nil : ([] : List (List Value × List DC)) = encS [] := rfl
@[simp] theorem imE_MI (m : List (Int × Int)) : imE (encMI m) = encM m := by simp [imE, encMI, encM]
@[simp] theorem imE_SI (l : List Int) : imE (encSI l) = encS l := by simp [imE, encSI, encS]
@[simp] theorem mapO_M (k n : Nat) (objs : List DObj) (m : List (Int × Int)) : mapO (fun x : List Value × List DC => (mapO (frz (k + 1) n objs) x.2).map fun l => (x.1, l)) (encM m) = some (encMI m) := by
  induction m with
  | nil => rfl
  | cons p r ih =>
    have e : encM (p :: r) = (kI p.1, [.im (rI p.2)]) :: encM r := rfl
    rw [e]
    simp [mapO, ih, encMI]
@[simp] theorem mapO_S (k n : Nat) (objs : List DObj) (l : List Int) : mapO (fun x : List Value × List DC => (mapO (frz (k + 1) n objs) x.2).map fun l => (x.1, l)) (encS l) = some (encSI l) := by
  induction l with
  | nil => rfl
  | cons p r ih =>
    have e : encS (p :: r) = (kI p, [.im (rB true)]) :: encS r := rfl
    rw [e]
    simp [mapO, ih, encSI]
@[simp] theorem map_fz_M (n : Nat) (objs : List DObj) (m : List (Int × Int)) : ((encM m).map fun x => (x.1, x.2.map (fz n objs))) = encM m := by
  simp [encM, fz, DC.lt]
@[simp] theorem map_fz_S (n : Nat) (objs : List DObj) (l : List Int) : ((encS l).map fun x => (x.1, x.2.map (fz n objs))) = encS l := by
  simp [encS, fz, DC.lt]
end Go.Ab
