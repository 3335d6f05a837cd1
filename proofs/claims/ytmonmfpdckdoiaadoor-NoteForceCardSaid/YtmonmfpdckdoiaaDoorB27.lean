/- Part 27 of the proof whose last text closes the card: laws and walks that hold without conditions beyond those that each theorem names. -/
import Derived.Test.YtmonmfpdckdoiaaDoorB26
set_option linter.all false
set_option linter.deprecated false
namespace Go.Proofs
open Go Go.Ab
set_option linter.unusedSimpArgs false
variable {G : Nat → Option (List IC)}
def noteG (G : Nat → Option (List IC)) : Prop := G 1 = some [.fn (.func 189) [], .fn (.func 190) [], .fn (.func 191) [], .fn (.func 192) [], .fn (.func 193) [], .fn (.func 194) [], .fn (.func 197) [], .fn (.func 199) []]
/-- The slices.Sort of this program. -/
def SortOk (G : Nat → Option (List IC)) : Prop := ∀ (l : List Int) (g sz : Nat) (nl : Bool), (sz = 1 ∨ nl = true ∧ l = []) → l.length < 1000000 → DCall Tryd.prog G 69 [.one (.vec 0 g 0 l.length)] [.vec sz (ims (l.map encI)) g nl] (fun d o => d = .tup [] ∧ o = [.vec sz (ims ((isort l).map encI)) g nl])
def fileI (n : Notes) : IC := .ip [.sl (n.reg.map encIssue), .sl (n.notes.map encNote), .sl ((nums n.reg).map encI), .sl ((isort (openL n.notes)).map encI)]
def fileR (n : Notes) : DV := if notesE n = 0 then .one (.im (fileI n)) else .one (.im (.raw (.pointer none)))
theorem fileR_im (n : Notes) : ImV (fileR n) := by unfold fileR; split <;> simp [fileI]
attribute [simp] fileR_im
theorem notesE_bad {n : Notes} {i : Nat} {x : Note} (h0 : checkR n.reg = 0) (hx : n.notes[i]? = some x) (h : nkA n i x = false) : notesE n = 30 := by
  unfold notesE
  rw [if_neg (by simp [h0]), if_neg]
  intro hb
  have := (notesB_iff.1 hb).2.1 i x hx
  rw [h] at this; cases this
set_option maxHeartbeats 4000000 in
theorem opened_c (n : Notes) (hG : sheetG G) (hN : noteG G) (hS : SortOk G) (hs : NSm n) (objs : List DObj) : DCall Tryd.prog G 61 [notesv n] objs (fun rr objs' => rr = .tup [fileR n, iv (notesE n)] ∧ objs' = objs) := by
  refine DCall.frame ?_ (by simp) (by simp) objs
  refine DCall_intro Tryd.func61 rfl Tryd.ntmps61 (by simp) rfl ?_
  try simp only [notesv]
  have hN' : G 1 = some [.fn (.func 189) [], .fn (.func 190) [], .fn (.func 191) [], .fn (.func 192) [], .fn (.func 193) [], .fn (.func 194) [], .fn (.func 197) [], .fn (.func 199) []] := hN
  obtain ⟨hsr, hsn, hsx⟩ := hs
  have c1 := drawings_c n.reg hG hsr
  by_cases h0 : checkR n.reg = 0
  · rw [h0, show drawR n.reg = nums n.reg by simp [drawR, h0]] at c1
    by_cases hl : n.notes.length ≤ 12
    · have hli : ¬ (12 : Int) < n.notes.length := by omega
      have hE : notesE n = if notesB n then 0 else 30 := by unfold notesE; rw [if_neg (by simp [h0])]
      have hs : True := trivial
      repeat' first | (with_reducible first | refine q01 ?_ | refine q02 ?_ | refine q03 ?_ | refine q04 ?_ | refine q05 ?_ | refine q06 ?_ | refine q07 (by decide) ?_ | refine q08 ?_ | refine q09 ?_ | refine q10 ?_ | refine q11 ?_ | refine q12 ?_ | refine q13 ?_ | refine q14 ?_ | refine q15 ?_ | refine q16 ?_ | refine q17 ?_ | refine And.intro (by omega) ?_) | (with_reducible refine At.fn_ret (by simp -dsimp [hli, hs]; exact rfl) ?_) | (with_reducible refine At.fn_end (by simp -dsimp [hli, hs]; exact rfl) ?_) | (refine CallE.pure (c1) ?_; try simp -dsimp [hli, hs]) | (refine DT_regionX (id := 18) (nt := 78) 8 [0] [0, 1, 2, 3, 4, 5, 6, 7, 8, 9, 11, 19, 24, 30, 31, 32, 33, 37, 38, 39, 46, 50, 52, 53, 54, 55, 56, 57, 58, 71] [0, 1, 2, 3, 4, 5, 6, 7, 8, 9, 11, 19, 24, 30, 31, 32, 33, 37, 38, 39, 46, 50, 71] mixed rfl (by kernel_rfl) ?_; simp -dsimp [hli, hs]) | (with_reducible refine DT_regionN (id := 6) (nt := 78) [0, 1, 2, 3, 4, 5, 6, 7, 8, 9, 11, 19, 24, 30, 31, 32, 33, 37, 38, 39, 46, 50, 71] rfl ?_; simp -dsimp [hli, hs]) | (with_reducible refine DT_regionE [0, 1, 2, 3, 4, 5, 6, 7, 8, 9, 11, 19, 24, 30, 31, 32, 33, 37, 38, 39, 46, 50, 71] ?_; simp -dsimp [hli, hs]) | (refine DT_cond rfl (fun h => ?_) (fun h => ?_) <;> (try simp only [nrm] at h) <;> (try exact Bool.noConfusion h)) | (with_reducible refine GStop_split ?_ ?_ <;> intro h <;> have h0 := h <;> (try simp only [nrm] at h) <;> (try exact Bool.noConfusion h) <;> have h2 := h <;> (try simp at h2) <;> (replace hs := And.intro h0 (And.intro h (And.intro h2 hs))) <;> simp -dsimp [h0, h, h2, hli, hs]) | (with_reducible refine imp_At (fun h => ?_); (try simp only [List.map_eq_nil_iff] at h); (try subst h); try simp -dsimp [hli, hs]) | with_reducible refine And.intro ?_ ?_
      all_goals try simp -dsimp [hli, hs]
      all_goals try clear hs
      refine DT_loop (ι := { p : Nat × Nat × Nat × Bool // p.1 ≤ n.notes.length ∧ (p.2.2.1 = 1 ∨ p.2.2.2 = true ∧ openL (n.notes.take p.1) = []) ∧ ∀ (j : Nat) (x : Note), j < p.1 → n.notes[j]? = some x → nkA n j x = true }) (fun p => ⟨78, [(1, .one (.ptr 0 0)), (2, .one (.im (.raw (.pointer none)))), (3, iv 0), (6, .one (.ptr 5 0)), (7, bv false), (30, .one (.im (.sl (n.notes.map encNote)))), (31, iv (n.notes.length : Int)), (32, iv (p.1.1 : Int))], [.row ((encNotes n).map .im), .vec 0 [] 0 true, .vec 0 [] 0 true, .vec 0 [] 0 true, .vec p.1.2.2.1 (ims ((openL (n.notes.take p.1.1)).map encI)) p.1.2.1 p.1.2.2.2, .row [.im (.sl (n.reg.map encIssue)), .im (.sl (n.notes.map encNote)), .im (.sl ((nums n.reg).map encI)), .vec 4 p.1.2.1 0 (openL (n.notes.take p.1.1)).length]]⟩) (fun p => n.notes.length - p.1.1) ⟨(0, 0, 0, true), by simp [openL]⟩ (Weak.of_drop [1,2,3,6,7,30,31,32] 6 (by simp) (by simp) (by simp [openL])) ?_
      rintro ⟨⟨k, g, sz, nl⟩, hk, hsz, hok⟩
      simp only at hk hsz hok
      simp only [iv, bv]
      by_cases hlt : k < n.notes.length
      · have hx0 : n.notes[k]? = some n.notes[k] := by simp [hlt]
        have hw : IntKind.i64.wrap ((k : Int) + 1) = ((k + 1 : Nat) : Int) := i64w (by omega) (by omega)
        have hos := openL_snoc n.notes k hlt
        have hol := openL_len (n.notes.take k)
        rw [List.length_take] at hol
        generalize hx : n.notes[k] = x at *
        have k1 := nk1_c (G := G) n k x hx0
        have k2 := nk2_c (G := G) n k x hx0
        have k3 := nk3_c (G := G) n k x hx0
        have k4 := nk4_c (G := G) n k x hx0 hG hsr
        have k5 := nk5_c (G := G) n k x hx0
        have k6 := nk6_c (G := G) n k x hx0 (by omega)
        have k7 := nk7_c (G := G) n k x hx0 (by omega)
        have k8 := nk8_c (G := G) n k x hx0 (by omega)
        rw [show nk1 x = nkI n k x 0 from rfl] at k1
        rw [show nk2 x = nkI n k x 1 from rfl] at k2
        rw [show nk3 x = nkI n k x 2 from rfl] at k3
        rw [show nk4 n.reg x = nkI n k x 3 from rfl] at k4
        rw [show nk5 x = nkI n k x 4 from rfl] at k5
        rw [show nk6 n.notes k x = nkI n k x 5 from rfl] at k6
        rw [show nk7 n.notes k x = nkI n k x 6 from rfl] at k7
        rw [show nk8 n.notes k x = nkI n k x 7 from rfl] at k8
        have hbad : ∀ c, nkI n k x c = false → notesE n = 30 := fun c h => notesE_bad h0 hx0 (nkI_bad h)
        have hstep : nkA n k x = true → ∀ (j : Nat) (z : Note), j < k + 1 → n.notes[j]? = some z → nkA n j z = true := fun h j z hj hz => by
          by_cases e : j = k
          · subst e; rw [hx0] at hz; cases hz; exact h
          · exact hok j z (by omega) hz
        have hs : True := trivial
        repeat' first | (with_reducible first | refine q01 ?_ | refine q02 ?_ | refine q03 ?_ | refine q04 ?_ | refine q05 ?_ | refine q06 ?_ | refine q07 (by decide) ?_ | refine q08 ?_ | refine q09 ?_ | refine q10 ?_ | refine q11 ?_ | refine q12 ?_ | refine q13 ?_ | refine q14 ?_ | refine q15 ?_ | refine q16 ?_ | refine q17 ?_ | refine And.intro (by omega) ?_) | (with_reducible refine At.fn_ret (by simp -dsimp [hx, hlt, hN', hs]; exact rfl) ?_) | (with_reducible refine At.fn_end (by simp -dsimp [hx, hlt, hN', hs]; exact rfl) ?_) | (refine DT_regionX (id := 18) (nt := 78) 8 [0] [0, 1, 2, 3, 4, 5, 6, 7, 8, 9, 11, 19, 24, 30, 31, 32, 33, 37, 38, 39, 46, 50, 52, 53, 54, 55, 56, 57, 58, 71] [0, 1, 2, 3, 4, 5, 6, 7, 8, 9, 11, 19, 24, 30, 31, 32, 33, 37, 38, 39, 46, 50, 71] mixed rfl (by kernel_rfl) ?_; simp -dsimp [hx, hlt, hN', hs]) | (with_reducible refine DT_regionN (id := 6) (nt := 78) [0, 1, 2, 3, 4, 5, 6, 7, 8, 9, 11, 19, 24, 30, 31, 32, 33, 37, 38, 39, 46, 50, 71] rfl ?_; simp -dsimp [hx, hlt, hN', hs]) | (with_reducible refine DT_regionE [0, 1, 2, 3, 4, 5, 6, 7, 8, 9, 11, 19, 24, 30, 31, 32, 33, 37, 38, 39, 46, 50, 71] ?_; simp -dsimp [hx, hlt, hN', hs]) | (refine DT_cond rfl (fun h => ?_) (fun h => ?_) <;> (try simp only [nrm] at h) <;> (try exact Bool.noConfusion h)) | (with_reducible refine GStop_split ?_ ?_ <;> intro h <;> have h0 := h <;> (try simp only [nrm] at h) <;> (try exact Bool.noConfusion h) <;> have h2 := h <;> (try simp at h2) <;> (replace hs := And.intro h0 (And.intro h (And.intro h2 hs))) <;> simp -dsimp [h0, h, h2, hx, hlt, hN', hs]) | (with_reducible refine imp_At (fun h => ?_); (try simp only [List.map_eq_nil_iff] at h); (try subst h); try simp -dsimp [hx, hlt, hN', hs]) | with_reducible refine And.intro ?_ ?_
        all_goals try simp -dsimp [hx, hlt, hN', hs]
        all_goals try clear hs
        refine DT_loop (ι := { c : Nat // c ≤ 8 ∧ ∀ e < c, nkI n k x e = true }) (fun p => ⟨78, [(1, .one (.ptr 0 0)), (2, .one (.im (.raw (.pointer none)))), (3, iv 0), (6, .one (.ptr 5 0)), (7, bv false), (8, iv (k : Int)), (9, .one (.ptr 6 0)), (30, .one (.im (.sl (n.notes.map encNote)))), (31, iv (n.notes.length : Int)), (32, iv (k : Int)), (37, .agg [.im (.fn (.func 189) []), .im (.fn (.func 190) []), .im (.fn (.func 191) []), .im (.fn (.func 192) []), .im (.fn (.func 193) []), .im (.fn (.func 194) []), .im (.fn (.func 197) []), .im (.fn (.func 199) [])]), (38, iv (p.1 : Int))], [.row ((encNotes n).map .im), .vec 0 [] 0 true, .vec 0 [] 0 true, .vec 0 [] 0 true, .vec sz (ims ((openL (n.notes.take k)).map encI)) g nl, .row [.im (.sl (n.reg.map encIssue)), .im (.sl (n.notes.map encNote)), .im (.sl ((nums n.reg).map encI)), .vec 4 g 0 (openL (n.notes.take k)).length], .row ((encNote x).map .im)]⟩) (fun p => 8 - p.1) ⟨0, by simp⟩ (Weak.of_keep [1,2,3,6,7,8,9,30,31,32,37,38] (by simp)) ?_
        rintro ⟨c, hc, hcc⟩
        simp only [iv, bv]
        by_cases hc8 : c < 8
        · have hm : nkI n k x c = true → ∀ e < c + 1, nkI n k x e = true := fun h e he => by
            rcases Nat.lt_succ_iff_lt_or_eq.1 he with h1 | rfl
            · exact hcc e h1
            · exact h
          have hbc := hbad c
          have hi8 : c = 0 ∨ c = 1 ∨ c = 2 ∨ c = 3 ∨ c = 4 ∨ c = 5 ∨ c = 6 ∨ c = 7 := by omega
          rcases hi8 with rfl | rfl | rfl | rfl | rfl | rfl | rfl | rfl
          all_goals
            have hs : True := trivial
            repeat' first | (with_reducible first | refine q01 ?_ | refine q02 ?_ | refine q03 ?_ | refine q04 ?_ | refine q05 ?_ | refine q06 ?_ | refine q07 (by decide) ?_ | refine q08 ?_ | refine q09 ?_ | refine q10 ?_ | refine q11 ?_ | refine q12 ?_ | refine q13 ?_ | refine q14 ?_ | refine q15 ?_ | refine q16 ?_ | refine q17 ?_ | refine And.intro (by omega) ?_) | (with_reducible refine At.fn_ret (by simp -dsimp [hli, hs]; exact rfl) ?_) | (with_reducible refine At.fn_end (by simp -dsimp [hli, hs]; exact rfl) ?_) | (refine CallE.pure (k1) ?_; try simp -dsimp [hli, hs]) | (refine CallE.pure (k2) ?_; try simp -dsimp [hli, hs]) | (refine CallE.pure (k3) ?_; try simp -dsimp [hli, hs]) | (refine CallE.pure (k4) ?_; try simp -dsimp [hli, hs]) | (refine CallE.pure (k5) ?_; try simp -dsimp [hli, hs]) | (refine CallE.pure (k6) ?_; try simp -dsimp [hli, hs]) | (refine CallE.pure (k7) ?_; try simp -dsimp [hli, hs]) | (refine CallE.pure (k8) ?_; try simp -dsimp [hli, hs]) | (refine DT_regionX (id := 18) (nt := 78) 8 [0] [0, 1, 2, 3, 4, 5, 6, 7, 8, 9, 11, 19, 24, 30, 31, 32, 33, 37, 38, 39, 46, 50, 52, 53, 54, 55, 56, 57, 58, 71] [0, 1, 2, 3, 4, 5, 6, 7, 8, 9, 11, 19, 24, 30, 31, 32, 33, 37, 38, 39, 46, 50, 71] mixed rfl (by kernel_rfl) ?_; simp -dsimp [hli, hs]) | (with_reducible refine DT_regionN (id := 6) (nt := 78) [0, 1, 2, 3, 4, 5, 6, 7, 8, 9, 11, 19, 24, 30, 31, 32, 33, 37, 38, 39, 46, 50, 71] rfl ?_; simp -dsimp [hli, hs]) | (with_reducible refine DT_regionE [0, 1, 2, 3, 4, 5, 6, 7, 8, 9, 11, 19, 24, 30, 31, 32, 33, 37, 38, 39, 46, 50, 71] ?_; simp -dsimp [hli, hs]) | (refine DT_cond rfl (fun h => ?_) (fun h => ?_) <;> (try simp only [nrm] at h) <;> (try exact Bool.noConfusion h)) | (with_reducible refine GStop_split ?_ ?_ <;> intro h <;> have h0 := h <;> (try simp only [nrm] at h) <;> (try exact Bool.noConfusion h) <;> have h2 := h <;> (try simp at h2) <;> (replace hs := And.intro h0 (And.intro h (And.intro h2 hs))) <;> simp -dsimp [h0, h, h2, hli, hs]) | (with_reducible refine imp_At (fun h => ?_); (try simp only [List.map_eq_nil_iff] at h); (try subst h); try simp -dsimp [hli, hs]) | with_reducible refine And.intro ?_ ?_
            all_goals try simp -dsimp [hli, hs]
            all_goals try clear hs
          all_goals try (have h30 := hbc (by assumption); simp [fileR, h30]; done)
          all_goals exact At.round ⟨_, by omega, hm (by assumption)⟩ (by simp) (Weak.of_drop [1,2,3,6,7,8,9,30,31,32,37,38] 7 (by simp) (by simp) (by simp; exact i64w (by omega) (by omega)))
        · obtain rfl : c = 8 := by omega
          have hok1 := hstep (nkI_all hcc)
          have hsz' : sz = 1 ∨ nl = true := hsz.imp id And.left
          clear k1 k2 k3 k4 k5 k6 k7 k8
          by_cases hsg : x.signed = 1
          · rw [if_pos hsg] at hos
            have hs : True := trivial
            repeat' first | (with_reducible first | refine q01 ?_ | refine q02 ?_ | refine q03 ?_ | refine q04 ?_ | refine q05 ?_ | refine q06 ?_ | refine q07 (by decide) ?_ | refine q08 ?_ | refine q09 ?_ | refine q10 ?_ | refine q11 ?_ | refine q12 ?_ | refine q13 ?_ | refine q14 ?_ | refine q15 ?_ | refine q16 ?_ | refine q17 ?_ | refine And.intro (by omega) ?_) | (with_reducible refine At.fn_ret (by simp -dsimp [hx, hlt, hsg, hw, hsz', hs]; exact rfl) ?_) | (with_reducible refine At.fn_end (by simp -dsimp [hx, hlt, hsg, hw, hsz', hs]; exact rfl) ?_) | (refine DT_regionX (id := 18) (nt := 78) 8 [0] [0, 1, 2, 3, 4, 5, 6, 7, 8, 9, 11, 19, 24, 30, 31, 32, 33, 37, 38, 39, 46, 50, 52, 53, 54, 55, 56, 57, 58, 71] [0, 1, 2, 3, 4, 5, 6, 7, 8, 9, 11, 19, 24, 30, 31, 32, 33, 37, 38, 39, 46, 50, 71] mixed rfl (by kernel_rfl) ?_; simp -dsimp [hx, hlt, hsg, hw, hsz', hs]) | (with_reducible refine DT_regionN (id := 6) (nt := 78) [0, 1, 2, 3, 4, 5, 6, 7, 8, 9, 11, 19, 24, 30, 31, 32, 33, 37, 38, 39, 46, 50, 71] rfl ?_; simp -dsimp [hx, hlt, hsg, hw, hsz', hs]) | (with_reducible refine DT_regionE [0, 1, 2, 3, 4, 5, 6, 7, 8, 9, 11, 19, 24, 30, 31, 32, 33, 37, 38, 39, 46, 50, 71] ?_; simp -dsimp [hx, hlt, hsg, hw, hsz', hs]) | (refine DT_cond rfl (fun h => ?_) (fun h => ?_) <;> (try simp only [nrm] at h) <;> (try exact Bool.noConfusion h)) | (with_reducible refine GStop_split ?_ ?_ <;> intro h <;> have h0 := h <;> (try simp only [nrm] at h) <;> (try exact Bool.noConfusion h) <;> have h2 := h <;> (try simp at h2) <;> (replace hs := And.intro h0 (And.intro h (And.intro h2 hs))) <;> simp -dsimp [h0, h, h2, hx, hlt, hsg, hw, hsz', hs]) | (with_reducible refine imp_At (fun h => ?_); (try simp only [List.map_eq_nil_iff] at h); (try subst h); try simp -dsimp [hx, hlt, hsg, hw, hsz', hs]) | with_reducible refine And.intro ?_ ?_
            all_goals try simp -dsimp [hx, hlt, hsg, hw, hsz', hs]
            all_goals try clear hs
            exact At.round ⟨(k + 1, g + 1, 1, false), by omega, .inl rfl, hok1⟩ (by simp; omega) (Weak.of_drop [1,2,3,6,7,30,31,32] 6 (by simp) (by simp) (by simp [hos]))
          · rw [if_neg hsg, List.append_nil] at hos
            have hszn : sz = 1 ∨ nl = true ∧ openL (n.notes.take (k + 1)) = [] := by rw [hos]; exact hsz
            have hs : True := trivial
            repeat' first | (with_reducible first | refine q01 ?_ | refine q02 ?_ | refine q03 ?_ | refine q04 ?_ | refine q05 ?_ | refine q06 ?_ | refine q07 (by decide) ?_ | refine q08 ?_ | refine q09 ?_ | refine q10 ?_ | refine q11 ?_ | refine q12 ?_ | refine q13 ?_ | refine q14 ?_ | refine q15 ?_ | refine q16 ?_ | refine q17 ?_ | refine And.intro (by omega) ?_) | (with_reducible refine At.fn_ret (by simp -dsimp [hx, hlt, hsg, hw, hs]; exact rfl) ?_) | (with_reducible refine At.fn_end (by simp -dsimp [hx, hlt, hsg, hw, hs]; exact rfl) ?_) | (refine DT_regionX (id := 18) (nt := 78) 8 [0] [0, 1, 2, 3, 4, 5, 6, 7, 8, 9, 11, 19, 24, 30, 31, 32, 33, 37, 38, 39, 46, 50, 52, 53, 54, 55, 56, 57, 58, 71] [0, 1, 2, 3, 4, 5, 6, 7, 8, 9, 11, 19, 24, 30, 31, 32, 33, 37, 38, 39, 46, 50, 71] mixed rfl (by kernel_rfl) ?_; simp -dsimp [hx, hlt, hsg, hw, hs]) | (with_reducible refine DT_regionN (id := 6) (nt := 78) [0, 1, 2, 3, 4, 5, 6, 7, 8, 9, 11, 19, 24, 30, 31, 32, 33, 37, 38, 39, 46, 50, 71] rfl ?_; simp -dsimp [hx, hlt, hsg, hw, hs]) | (with_reducible refine DT_regionE [0, 1, 2, 3, 4, 5, 6, 7, 8, 9, 11, 19, 24, 30, 31, 32, 33, 37, 38, 39, 46, 50, 71] ?_; simp -dsimp [hx, hlt, hsg, hw, hs]) | (refine DT_cond rfl (fun h => ?_) (fun h => ?_) <;> (try simp only [nrm] at h) <;> (try exact Bool.noConfusion h)) | (with_reducible refine GStop_split ?_ ?_ <;> intro h <;> have h0 := h <;> (try simp only [nrm] at h) <;> (try exact Bool.noConfusion h) <;> have h2 := h <;> (try simp at h2) <;> (replace hs := And.intro h0 (And.intro h (And.intro h2 hs))) <;> simp -dsimp [h0, h, h2, hx, hlt, hsg, hw, hs]) | (with_reducible refine imp_At (fun h => ?_); (try simp only [List.map_eq_nil_iff] at h); (try subst h); try simp -dsimp [hx, hlt, hsg, hw, hs]) | with_reducible refine And.intro ?_ ?_
            all_goals try simp -dsimp [hx, hlt, hsg, hw, hs]
            all_goals try clear hs
            exact At.round ⟨(k + 1, g, sz, nl), by omega, hszn, hok1⟩ (by simp; omega) (Weak.of_drop [1,2,3,6,7,30,31,32] 6 (by simp) (by simp) (by simp [hos]))
      · obtain rfl : k = n.notes.length := by omega
        rw [List.take_length] at *
        have hall : allOk n := fun i x hx => hok i x (lt_of_getElem? hx) hx
        have hol := openL_len n.notes
        have c2 := hS (openL n.notes) g sz nl hsz (by omega)
        have hil := isort_len (openL n.notes)
        by_cases h5 : (openL n.notes).length ≤ 5
        · have hE0 : notesE n = 0 := by rw [hE, if_pos (notesB_iff.2 ⟨hl, hall, h5⟩)]
          have h5i : ¬ (5 : Int) < (openL n.notes).length := by omega
          have hsz' : sz = 1 ∨ nl = true := hsz.imp id And.left
          have htk : (ims ((isort (openL n.notes)).map encI)).take (openL n.notes).length = ims ((isort (openL n.notes)).map encI) := List.take_of_length_le (by simp [ims_length, hil])
          have hs : True := trivial
          repeat' first | (with_reducible first | refine q01 ?_ | refine q02 ?_ | refine q03 ?_ | refine q04 ?_ | refine q05 ?_ | refine q06 ?_ | refine q07 (by decide) ?_ | refine q08 ?_ | refine q09 ?_ | refine q10 ?_ | refine q11 ?_ | refine q12 ?_ | refine q13 ?_ | refine q14 ?_ | refine q15 ?_ | refine q16 ?_ | refine q17 ?_ | refine And.intro (by omega) ?_) | (with_reducible refine At.fn_ret (by simp -dsimp [hlt, h5i, hsz', htk, hil, hs]; exact rfl) ?_) | (with_reducible refine At.fn_end (by simp -dsimp [hlt, h5i, hsz', htk, hil, hs]; exact rfl) ?_) | (refine CallE.embed [4] (c2) ?_ ?_ ?_ ?_ ?_ ?_; (focus (simp [emb]; done)); (focus (simp; done)); (focus (simp; done)); (focus (simp; done)); (focus (refine emb_all ?_; simp [emb, embAll]; done)); try simp -dsimp [mergeO, emb, hlt, h5i, hsz', htk, hil, hs]) | (refine DT_regionX (id := 18) (nt := 78) 8 [0] [0, 1, 2, 3, 4, 5, 6, 7, 8, 9, 11, 19, 24, 30, 31, 32, 33, 37, 38, 39, 46, 50, 52, 53, 54, 55, 56, 57, 58, 71] [0, 1, 2, 3, 4, 5, 6, 7, 8, 9, 11, 19, 24, 30, 31, 32, 33, 37, 38, 39, 46, 50, 71] mixed rfl (by kernel_rfl) ?_; simp -dsimp [hlt, h5i, hsz', htk, hil, hs]) | (with_reducible refine DT_regionN (id := 6) (nt := 78) [0, 1, 2, 3, 4, 5, 6, 7, 8, 9, 11, 19, 24, 30, 31, 32, 33, 37, 38, 39, 46, 50, 71] rfl ?_; simp -dsimp [hlt, h5i, hsz', htk, hil, hs]) | (with_reducible refine DT_regionE [0, 1, 2, 3, 4, 5, 6, 7, 8, 9, 11, 19, 24, 30, 31, 32, 33, 37, 38, 39, 46, 50, 71] ?_; simp -dsimp [hlt, h5i, hsz', htk, hil, hs]) | (refine DT_cond rfl (fun h => ?_) (fun h => ?_) <;> (try simp only [nrm] at h) <;> (try exact Bool.noConfusion h)) | (with_reducible refine GStop_split ?_ ?_ <;> intro h <;> have h0 := h <;> (try simp only [nrm] at h) <;> (try exact Bool.noConfusion h) <;> have h2 := h <;> (try simp at h2) <;> (replace hs := And.intro h0 (And.intro h (And.intro h2 hs))) <;> simp -dsimp [h0, h, h2, hlt, h5i, hsz', htk, hil, hs]) | (with_reducible refine imp_At (fun h => ?_); (try simp only [List.map_eq_nil_iff] at h); (try subst h); try simp -dsimp [hlt, h5i, hsz', htk, hil, hs]) | with_reducible refine And.intro ?_ ?_
          all_goals try simp -dsimp [hlt, h5i, hsz', htk, hil, hs]
          all_goals try clear hs
          all_goals simp [fileR, hE0, fileI, hil, htk]
        · have hE0 : notesE n = 30 := by rw [hE, if_neg fun h => h5 (notesB_iff.1 h).2.2]
          have h5i : (5 : Int) < (openL n.notes).length := by omega
          have hs : True := trivial
          repeat' first | (with_reducible first | refine q01 ?_ | refine q02 ?_ | refine q03 ?_ | refine q04 ?_ | refine q05 ?_ | refine q06 ?_ | refine q07 (by decide) ?_ | refine q08 ?_ | refine q09 ?_ | refine q10 ?_ | refine q11 ?_ | refine q12 ?_ | refine q13 ?_ | refine q14 ?_ | refine q15 ?_ | refine q16 ?_ | refine q17 ?_ | refine And.intro (by omega) ?_) | (with_reducible refine At.fn_ret (by simp -dsimp [hlt, h5i, hs]; exact rfl) ?_) | (with_reducible refine At.fn_end (by simp -dsimp [hlt, h5i, hs]; exact rfl) ?_) | (refine DT_regionX (id := 18) (nt := 78) 8 [0] [0, 1, 2, 3, 4, 5, 6, 7, 8, 9, 11, 19, 24, 30, 31, 32, 33, 37, 38, 39, 46, 50, 52, 53, 54, 55, 56, 57, 58, 71] [0, 1, 2, 3, 4, 5, 6, 7, 8, 9, 11, 19, 24, 30, 31, 32, 33, 37, 38, 39, 46, 50, 71] mixed rfl (by kernel_rfl) ?_; simp -dsimp [hlt, h5i, hs]) | (with_reducible refine DT_regionN (id := 6) (nt := 78) [0, 1, 2, 3, 4, 5, 6, 7, 8, 9, 11, 19, 24, 30, 31, 32, 33, 37, 38, 39, 46, 50, 71] rfl ?_; simp -dsimp [hlt, h5i, hs]) | (with_reducible refine DT_regionE [0, 1, 2, 3, 4, 5, 6, 7, 8, 9, 11, 19, 24, 30, 31, 32, 33, 37, 38, 39, 46, 50, 71] ?_; simp -dsimp [hlt, h5i, hs]) | (refine DT_cond rfl (fun h => ?_) (fun h => ?_) <;> (try simp only [nrm] at h) <;> (try exact Bool.noConfusion h)) | (with_reducible refine GStop_split ?_ ?_ <;> intro h <;> have h0 := h <;> (try simp only [nrm] at h) <;> (try exact Bool.noConfusion h) <;> have h2 := h <;> (try simp at h2) <;> (replace hs := And.intro h0 (And.intro h (And.intro h2 hs))) <;> simp -dsimp [h0, h, h2, hlt, h5i, hs]) | (with_reducible refine imp_At (fun h => ?_); (try simp only [List.map_eq_nil_iff] at h); (try subst h); try simp -dsimp [hlt, h5i, hs]) | with_reducible refine And.intro ?_ ?_
          all_goals try simp -dsimp [hlt, h5i, hs]
          all_goals try clear hs
          all_goals simp [fileR, hE0]
    · have hE : notesE n = 30 := by
        unfold notesE
        rw [if_neg (by simp [h0]), if_neg fun h => hl (notesB_iff.1 h).1]
      have hli : (12 : Int) < n.notes.length := by omega
      have hs : True := trivial
      repeat' first | (with_reducible first | refine q01 ?_ | refine q02 ?_ | refine q03 ?_ | refine q04 ?_ | refine q05 ?_ | refine q06 ?_ | refine q07 (by decide) ?_ | refine q08 ?_ | refine q09 ?_ | refine q10 ?_ | refine q11 ?_ | refine q12 ?_ | refine q13 ?_ | refine q14 ?_ | refine q15 ?_ | refine q16 ?_ | refine q17 ?_ | refine And.intro (by omega) ?_) | (with_reducible refine At.fn_ret (by simp -dsimp [hli, hs]; exact rfl) ?_) | (with_reducible refine At.fn_end (by simp -dsimp [hli, hs]; exact rfl) ?_) | (refine CallE.pure (c1) ?_; try simp -dsimp [hli, hs]) | (refine DT_regionX (id := 18) (nt := 78) 8 [0] [0, 1, 2, 3, 4, 5, 6, 7, 8, 9, 11, 19, 24, 30, 31, 32, 33, 37, 38, 39, 46, 50, 52, 53, 54, 55, 56, 57, 58, 71] [0, 1, 2, 3, 4, 5, 6, 7, 8, 9, 11, 19, 24, 30, 31, 32, 33, 37, 38, 39, 46, 50, 71] mixed rfl (by kernel_rfl) ?_; simp -dsimp [hli, hs]) | (with_reducible refine DT_regionN (id := 6) (nt := 78) [0, 1, 2, 3, 4, 5, 6, 7, 8, 9, 11, 19, 24, 30, 31, 32, 33, 37, 38, 39, 46, 50, 71] rfl ?_; simp -dsimp [hli, hs]) | (with_reducible refine DT_regionE [0, 1, 2, 3, 4, 5, 6, 7, 8, 9, 11, 19, 24, 30, 31, 32, 33, 37, 38, 39, 46, 50, 71] ?_; simp -dsimp [hli, hs]) | (refine DT_cond rfl (fun h => ?_) (fun h => ?_) <;> (try simp only [nrm] at h) <;> (try exact Bool.noConfusion h)) | (with_reducible refine GStop_split ?_ ?_ <;> intro h <;> have h0 := h <;> (try simp only [nrm] at h) <;> (try exact Bool.noConfusion h) <;> have h2 := h <;> (try simp at h2) <;> (replace hs := And.intro h0 (And.intro h (And.intro h2 hs))) <;> simp -dsimp [h0, h, h2, hli, hs]) | (with_reducible refine imp_At (fun h => ?_); (try simp only [List.map_eq_nil_iff] at h); (try subst h); try simp -dsimp [hli, hs]) | with_reducible refine And.intro ?_ ?_
      all_goals try simp -dsimp [hli, hs]
      all_goals try clear hs
      all_goals simp [fileR, hE]
  · have hE : notesE n = checkR n.reg := by unfold notesE; rw [if_pos h0]
    have hs : True := trivial
    repeat' first | (with_reducible first | refine q01 ?_ | refine q02 ?_ | refine q03 ?_ | refine q04 ?_ | refine q05 ?_ | refine q06 ?_ | refine q07 (by decide) ?_ | refine q08 ?_ | refine q09 ?_ | refine q10 ?_ | refine q11 ?_ | refine q12 ?_ | refine q13 ?_ | refine q14 ?_ | refine q15 ?_ | refine q16 ?_ | refine q17 ?_ | refine And.intro (by omega) ?_) | (with_reducible refine At.fn_ret (by simp -dsimp [h0, hs]; exact rfl) ?_) | (with_reducible refine At.fn_end (by simp -dsimp [h0, hs]; exact rfl) ?_) | (refine CallE.pure (c1) ?_; try simp -dsimp [h0, hs]) | (refine DT_regionX (id := 18) (nt := 78) 8 [0] [0, 1, 2, 3, 4, 5, 6, 7, 8, 9, 11, 19, 24, 30, 31, 32, 33, 37, 38, 39, 46, 50, 52, 53, 54, 55, 56, 57, 58, 71] [0, 1, 2, 3, 4, 5, 6, 7, 8, 9, 11, 19, 24, 30, 31, 32, 33, 37, 38, 39, 46, 50, 71] mixed rfl (by kernel_rfl) ?_; simp -dsimp [h0, hs]) | (with_reducible refine DT_regionN (id := 6) (nt := 78) [0, 1, 2, 3, 4, 5, 6, 7, 8, 9, 11, 19, 24, 30, 31, 32, 33, 37, 38, 39, 46, 50, 71] rfl ?_; simp -dsimp [h0, hs]) | (with_reducible refine DT_regionE [0, 1, 2, 3, 4, 5, 6, 7, 8, 9, 11, 19, 24, 30, 31, 32, 33, 37, 38, 39, 46, 50, 71] ?_; simp -dsimp [h0, hs]) | (refine DT_cond rfl (fun h => ?_) (fun h => ?_) <;> (try simp only [nrm] at h) <;> (try exact Bool.noConfusion h)) | (with_reducible refine GStop_split ?_ ?_ <;> intro h <;> have h0 := h <;> (try simp only [nrm] at h) <;> (try exact Bool.noConfusion h) <;> have h2 := h <;> (try simp at h2) <;> (replace hs := And.intro h0 (And.intro h (And.intro h2 hs))) <;> simp -dsimp [h0, h, h2, h0, hs]) | (with_reducible refine imp_At (fun h => ?_); (try simp only [List.map_eq_nil_iff] at h); (try subst h); try simp -dsimp [h0, hs]) | with_reducible refine And.intro ?_ ?_
    all_goals try simp -dsimp [h0, hs]
    all_goals try clear hs
    all_goals simp [fileR, hE, h0]
end Go.Proofs
namespace Go.Proofs
open Go Go.Ab
set_option linter.unusedSimpArgs false
variable {G : Nat → Option (List IC)}
theorem nCheck_c (n : Notes) (hG : sheetG G) (hN : noteG G) (hS : SortOk G) (hs : NSm n) (objs : List DObj) : DCall Tryd.prog G 24 [notesv n] objs (fun rr objs' => rr = iv (notesE n) ∧ objs' = objs) := by
  refine DCall.frame ?_ (by simp) (by simp) objs
  refine DCall_intro Tryd.func24 rfl Tryd.ntmps24 (by simp) rfl ?_
  try simp only [notesv]
  have c1 := opened_c n hG hN hS hs
  have hs : True := trivial
  repeat' first | (with_reducible first | refine q01 ?_ | refine q02 ?_ | refine q03 ?_ | refine q04 ?_ | refine q05 ?_ | refine q06 ?_ | refine q07 (by decide) ?_ | refine q08 ?_ | refine q09 ?_ | refine q10 ?_ | refine q11 ?_ | refine q12 ?_ | refine q13 ?_ | refine q14 ?_ | refine q15 ?_ | refine q16 ?_ | refine q17 ?_ | refine And.intro (by omega) ?_) | (with_reducible refine At.fn_ret (by simp -dsimp [hs]; exact rfl) ?_) | (with_reducible refine At.fn_end (by simp -dsimp [hs]; exact rfl) ?_) | (refine CallE.pure (c1) ?_; try simp -dsimp [hs]) | (with_reducible refine DT_regionE [0, 1, 2, 4] ?_; simp -dsimp [hs]) | (refine DT_cond rfl (fun h => ?_) (fun h => ?_) <;> (try simp only [nrm] at h) <;> (try exact Bool.noConfusion h)) | (with_reducible refine GStop_split ?_ ?_ <;> intro h <;> have h0 := h <;> (try simp only [nrm] at h) <;> (try exact Bool.noConfusion h) <;> have h2 := h <;> (try simp at h2) <;> (replace hs := And.intro h0 (And.intro h (And.intro h2 hs))) <;> simp -dsimp [h0, h, h2, hs]) | (with_reducible refine imp_At (fun h => ?_); (try simp only [List.map_eq_nil_iff] at h); (try subst h); try simp -dsimp [hs]) | with_reducible refine And.intro ?_ ?_
  all_goals try simp -dsimp [hs]
  all_goals try clear hs
theorem sput_take {O : List Int} {j : Nat} (hd : O.Nodup) (hj : j < O.length) : sput O[j] (O.take j) = O.take (j + 1) := by
  unfold sput
  rw [if_neg, List.take_succ_eq_append_getElem hj]
  intro hm
  obtain ⟨i, hi, e⟩ := List.mem_take_iff_getElem.1 hm
  have := (List.getElem_inj hd).1 e; omega
set_option maxHeartbeats 1000000 in
theorem truth_c (a b c : IC) (O s : List Int) (hd : O.Nodup) (hO : O.length < 1000) (hsl : s.length < 1000) (objs : List DObj) : DCall Tryd.prog G 96 [.one (.im (.ip [a, b, c, .sl (O.map encI)])), isv s] objs (fun rr objs' => rr = iv (if truthB O s then 0 else 31) ∧ objs' = objs) := by
  refine DCall.frame ?_ (by simp) (by simp) objs
  refine DCall_intro Tryd.func96 rfl Tryd.ntmps96 (by simp) rfl ?_
  try simp only [isv]
  have hs : True := trivial
  repeat' first | (with_reducible first | refine q01 ?_ | refine q02 ?_ | refine q03 ?_ | refine q04 ?_ | refine q05 ?_ | refine q06 ?_ | refine q07 (by decide) ?_ | refine q08 ?_ | refine q09 ?_ | refine q10 ?_ | refine q11 ?_ | refine q12 ?_ | refine q13 ?_ | refine q14 ?_ | refine q15 ?_ | refine q16 ?_ | refine q17 ?_ | refine And.intro (by omega) ?_) | (with_reducible refine At.fn_ret (by simp -dsimp [hs]; exact rfl) ?_) | (with_reducible refine At.fn_end (by simp -dsimp [hs]; exact rfl) ?_) | (with_reducible refine DT_regionE [0, 1, 4, 5, 7, 8, 9, 14, 15, 16, 17, 23, 24, 25, 26, 46] ?_; simp -dsimp [hs]) | (refine DT_cond rfl (fun h => ?_) (fun h => ?_) <;> (try simp only [nrm] at h) <;> (try exact Bool.noConfusion h)) | (with_reducible refine GStop_split ?_ ?_ <;> intro h <;> have h0 := h <;> (try simp only [nrm] at h) <;> (try exact Bool.noConfusion h) <;> have h2 := h <;> (try simp at h2) <;> (replace hs := And.intro h0 (And.intro h (And.intro h2 hs))) <;> simp -dsimp [h0, h, h2, hs]) | (with_reducible refine imp_At (fun h => ?_); (try simp only [List.map_eq_nil_iff] at h); (try subst h); try simp -dsimp [hs]) | with_reducible refine And.intro ?_ ?_
  all_goals try simp -dsimp [hs]
  all_goals try clear hs
  refine DT_loop (ι := { j : Nat // j ≤ O.length }) (fun p => ⟨50, [(1, isv s), (4, iv 0), (5, .one (.map 0)), (14, .one (.im (.sl (O.map encI)))), (15, iv (O.length : Int)), (16, iv (p.1 : Int))], [.map [.int .i64] (encS (O.take p.1))]⟩) (fun p => O.length - p.1) ⟨0, by omega⟩ (Weak.of_keep [1,4,5,14,15,16] (by simp [encS])) ?_
  rintro ⟨j, hj⟩
  simp only [iv, isv]
  by_cases hlt : j < O.length
  · have hw : IntKind.i64.wrap ((j : Int) + 1) = ((j + 1 : Nat) : Int) := i64w (by omega) (by omega)
    have hst := sput_take hd hlt
    generalize hx : O[j] = x at *
    have hs : True := trivial
    repeat' first | (with_reducible first | refine q01 ?_ | refine q02 ?_ | refine q03 ?_ | refine q04 ?_ | refine q05 ?_ | refine q06 ?_ | refine q07 (by decide) ?_ | refine q08 ?_ | refine q09 ?_ | refine q10 ?_ | refine q11 ?_ | refine q12 ?_ | refine q13 ?_ | refine q14 ?_ | refine q15 ?_ | refine q16 ?_ | refine q17 ?_ | refine And.intro (by omega) ?_) | (with_reducible refine At.fn_ret (by simp -dsimp [hx, hlt, hw, hst, hs]; exact rfl) ?_) | (with_reducible refine At.fn_end (by simp -dsimp [hx, hlt, hw, hst, hs]; exact rfl) ?_) | (with_reducible refine DT_regionE [0, 1, 4, 5, 7, 8, 9, 14, 15, 16, 17, 23, 24, 25, 26, 46] ?_; simp -dsimp [hx, hlt, hw, hst, hs]) | (refine DT_cond rfl (fun h => ?_) (fun h => ?_) <;> (try simp only [nrm] at h) <;> (try exact Bool.noConfusion h)) | (with_reducible refine GStop_split ?_ ?_ <;> intro h <;> have h0 := h <;> (try simp only [nrm] at h) <;> (try exact Bool.noConfusion h) <;> have h2 := h <;> (try simp at h2) <;> (replace hs := And.intro h0 (And.intro h (And.intro h2 hs))) <;> simp -dsimp [h0, h, h2, hx, hlt, hw, hst, hs]) | (with_reducible refine imp_At (fun h => ?_); (try simp only [List.map_eq_nil_iff] at h); (try subst h); try simp -dsimp [hx, hlt, hw, hst, hs]) | with_reducible refine And.intro ?_ ?_
    all_goals try simp -dsimp [hx, hlt, hw, hst, hs]
    all_goals try clear hs
    exact At.round ⟨j + 1, by omega⟩ (by simp; omega) (Weak.of_keep [1,4,5,14,15,16] (by simp [hst]))
  · obtain rfl : j = O.length := by omega
    rw [List.take_length]
    have hs : True := trivial
    repeat' first | (with_reducible first | refine q01 ?_ | refine q02 ?_ | refine q03 ?_ | refine q04 ?_ | refine q05 ?_ | refine q06 ?_ | refine q07 (by decide) ?_ | refine q08 ?_ | refine q09 ?_ | refine q10 ?_ | refine q11 ?_ | refine q12 ?_ | refine q13 ?_ | refine q14 ?_ | refine q15 ?_ | refine q16 ?_ | refine q17 ?_ | refine And.intro (by omega) ?_) | (with_reducible refine At.fn_ret (by simp -dsimp [hlt, hs]; exact rfl) ?_) | (with_reducible refine At.fn_end (by simp -dsimp [hlt, hs]; exact rfl) ?_) | (with_reducible refine DT_regionE [0, 1, 4, 5, 7, 8, 9, 14, 15, 16, 17, 23, 24, 25, 26, 46] ?_; simp -dsimp [hlt, hs]) | (refine DT_cond rfl (fun h => ?_) (fun h => ?_) <;> (try simp only [nrm] at h) <;> (try exact Bool.noConfusion h)) | (with_reducible refine GStop_split ?_ ?_ <;> intro h <;> have h0 := h <;> (try simp only [nrm] at h) <;> (try exact Bool.noConfusion h) <;> have h2 := h <;> (try simp at h2) <;> (replace hs := And.intro h0 (And.intro h (And.intro h2 hs))) <;> simp -dsimp [h0, h, h2, hlt, hs]) | (with_reducible refine imp_At (fun h => ?_); (try simp only [List.map_eq_nil_iff] at h); (try subst h); try simp -dsimp [hlt, hs]) | with_reducible refine And.intro ?_ ?_
    all_goals try simp -dsimp [hlt, hs]
    all_goals try clear hs
    refine DT_loop (ι := { p : Nat × List Int // p.1 ≤ s.length ∧ p.2.Nodup ∧ (∀ m, m ∈ p.2 ↔ m ∈ O ∧ m ∉ s.take p.1) ∧ truthTo O s p.1 }) (fun p => ⟨50, [(1, isv s), (5, .one (.map 0)), (23, isv s), (24, iv (s.length : Int)), (25, iv (p.1.1 : Int))], [.map [.int .i64] (encS p.1.2)]⟩) (fun p => s.length - p.1.1) ⟨(0, O), by simp, hd, by simp, fun i v h => by omega⟩ (Weak.of_keep [1,5,23,24,25] (by simp)) ?_
    rintro ⟨⟨i, L⟩, hi, hLd, hLm, hto⟩
    simp only at hi hLd hLm hto
    simp only [iv, isv]
    by_cases hlt2 : i < s.length
    · have hx0 : s[i]? = some s[i] := by simp [hlt2]
      have hw : IntKind.i64.wrap ((i : Int) + 1) = ((i + 1 : Nat) : Int) := i64w (by omega) (by omega)
      have hLv := hLm s[i]
      have hLn : ∀ m, m ∈ L.erase s[i] ↔ m ∈ O ∧ m ∉ s.take (i + 1) := fun m => by
        rw [hLd.mem_erase_iff, hLm, List.take_succ_eq_append_getElem hlt2]
        simp only [List.mem_append, List.mem_singleton, not_or]
        exact ⟨fun h => ⟨h.2.1, h.2.2, h.1⟩, fun h => ⟨h.2.2, h.1, h.2.1⟩⟩
      have hLe := hLd.erase s[i]
      generalize hv : s[i] = v at *
      by_cases hmem : v ∈ L
      · have hmd : decide (v ∈ L) = true := by simp [hmem]
        by_cases h00 : i = 0
        · have hnext := truthTo_step hto hx0 (hLv.1 hmem).1 (fun j u e => by omega)
          subst h00
          have hs : True := trivial
          repeat' first | (with_reducible first | refine q01 ?_ | refine q02 ?_ | refine q03 ?_ | refine q04 ?_ | refine q05 ?_ | refine q06 ?_ | refine q07 (by decide) ?_ | refine q08 ?_ | refine q09 ?_ | refine q10 ?_ | refine q11 ?_ | refine q12 ?_ | refine q13 ?_ | refine q14 ?_ | refine q15 ?_ | refine q16 ?_ | refine q17 ?_ | refine And.intro (by omega) ?_) | (with_reducible refine At.fn_ret (by simp -dsimp [hv, hlt2, hmd, hmem, hs]; exact rfl) ?_) | (with_reducible refine At.fn_end (by simp -dsimp [hv, hlt2, hmd, hmem, hs]; exact rfl) ?_) | (with_reducible refine DT_regionE [0, 1, 4, 5, 7, 8, 9, 14, 15, 16, 17, 23, 24, 25, 26, 46] ?_; simp -dsimp [hv, hlt2, hmd, hmem, hs]) | (refine DT_cond rfl (fun h => ?_) (fun h => ?_) <;> (try simp only [nrm] at h) <;> (try exact Bool.noConfusion h)) | (with_reducible refine GStop_split ?_ ?_ <;> intro h <;> have h0 := h <;> (try simp only [nrm] at h) <;> (try exact Bool.noConfusion h) <;> have h2 := h <;> (try simp at h2) <;> (replace hs := And.intro h0 (And.intro h (And.intro h2 hs))) <;> simp -dsimp [h0, h, h2, hv, hlt2, hmd, hmem, hs]) | (with_reducible refine imp_At (fun h => ?_); (try simp only [List.map_eq_nil_iff] at h); (try subst h); try simp -dsimp [hv, hlt2, hmd, hmem, hs]) | with_reducible refine And.intro ?_ ?_
          all_goals try simp -dsimp [hv, hlt2, hmd, hmem, hs]
          all_goals try clear hs
          exact At.round ⟨(0 + 1, L.erase v), by omega, hLe, hLn, hnext⟩ (by simp; omega) (Weak.of_keep [1,5,23,24,25] (by simp; exact i64w (by omega) (by omega)))
        · have hq : i - 1 < s.length := by omega
          have hwq : IntKind.i64.wrap ((i : Int) - 1) = ((i - 1 : Nat) : Int) := by rw [i64w (by omega) (by omega)]; omega
          have hi0 : (0 : Int) < (i : Int) := by omega
          have hin0 : 0 < i := by omega
          have hu0 : s[i - 1]? = some s[i - 1] := by simp [hq]
          have hnin : s[i - 1] ≠ v := fun e => (hLv.1 hmem).2 (e ▸ List.mem_take_iff_getElem.2 ⟨i - 1, by omega, rfl⟩)
          generalize hu : s[i - 1] = u at *
          by_cases hlu : v < u
          · have hb := truth_bad (o := O) hx0 (.inr ⟨i - 1, u, by omega, hu0, by omega⟩)
            have hs : True := trivial
            repeat' first | (with_reducible first | refine q01 ?_ | refine q02 ?_ | refine q03 ?_ | refine q04 ?_ | refine q05 ?_ | refine q06 ?_ | refine q07 (by decide) ?_ | refine q08 ?_ | refine q09 ?_ | refine q10 ?_ | refine q11 ?_ | refine q12 ?_ | refine q13 ?_ | refine q14 ?_ | refine q15 ?_ | refine q16 ?_ | refine q17 ?_ | refine And.intro (by omega) ?_) | (with_reducible refine At.fn_ret (by simp -dsimp [hv, hu, hq, hlt2, hw, hwq, hmd, hmem, hi0, hin0, hlu, hs]; exact rfl) ?_) | (with_reducible refine At.fn_end (by simp -dsimp [hv, hu, hq, hlt2, hw, hwq, hmd, hmem, hi0, hin0, hlu, hs]; exact rfl) ?_) | (with_reducible refine DT_regionE [0, 1, 4, 5, 7, 8, 9, 14, 15, 16, 17, 23, 24, 25, 26, 46] ?_; simp -dsimp [hv, hu, hq, hlt2, hw, hwq, hmd, hmem, hi0, hin0, hlu, hs]) | (refine DT_cond rfl (fun h => ?_) (fun h => ?_) <;> (try simp only [nrm] at h) <;> (try exact Bool.noConfusion h)) | (with_reducible refine GStop_split ?_ ?_ <;> intro h <;> have h0 := h <;> (try simp only [nrm] at h) <;> (try exact Bool.noConfusion h) <;> have h2 := h <;> (try simp at h2) <;> (replace hs := And.intro h0 (And.intro h (And.intro h2 hs))) <;> simp -dsimp [h0, h, h2, hv, hu, hq, hlt2, hw, hwq, hmd, hmem, hi0, hin0, hlu, hs]) | (with_reducible refine imp_At (fun h => ?_); (try simp only [List.map_eq_nil_iff] at h); (try subst h); try simp -dsimp [hv, hu, hq, hlt2, hw, hwq, hmd, hmem, hi0, hin0, hlu, hs]) | with_reducible refine And.intro ?_ ?_
            all_goals try simp -dsimp [hv, hu, hq, hlt2, hw, hwq, hmd, hmem, hi0, hin0, hlu, hs]
            all_goals try clear hs
            all_goals simp [hb]
          · have hnext := truthTo_step hto hx0 (hLv.1 hmem).1 (fun j u' e hu' => by
              obtain rfl : i - 1 = j := by omega
              rw [hu0] at hu'; cases hu'; omega)
            have hs : True := trivial
            repeat' first | (with_reducible first | refine q01 ?_ | refine q02 ?_ | refine q03 ?_ | refine q04 ?_ | refine q05 ?_ | refine q06 ?_ | refine q07 (by decide) ?_ | refine q08 ?_ | refine q09 ?_ | refine q10 ?_ | refine q11 ?_ | refine q12 ?_ | refine q13 ?_ | refine q14 ?_ | refine q15 ?_ | refine q16 ?_ | refine q17 ?_ | refine And.intro (by omega) ?_) | (with_reducible refine At.fn_ret (by simp -dsimp [hv, hu, hq, hlt2, hw, hwq, hmd, hmem, hi0, hin0, hlu, hs]; exact rfl) ?_) | (with_reducible refine At.fn_end (by simp -dsimp [hv, hu, hq, hlt2, hw, hwq, hmd, hmem, hi0, hin0, hlu, hs]; exact rfl) ?_) | (with_reducible refine DT_regionE [0, 1, 4, 5, 7, 8, 9, 14, 15, 16, 17, 23, 24, 25, 26, 46] ?_; simp -dsimp [hv, hu, hq, hlt2, hw, hwq, hmd, hmem, hi0, hin0, hlu, hs]) | (refine DT_cond rfl (fun h => ?_) (fun h => ?_) <;> (try simp only [nrm] at h) <;> (try exact Bool.noConfusion h)) | (with_reducible refine GStop_split ?_ ?_ <;> intro h <;> have h0 := h <;> (try simp only [nrm] at h) <;> (try exact Bool.noConfusion h) <;> have h2 := h <;> (try simp at h2) <;> (replace hs := And.intro h0 (And.intro h (And.intro h2 hs))) <;> simp -dsimp [h0, h, h2, hv, hu, hq, hlt2, hw, hwq, hmd, hmem, hi0, hin0, hlu, hs]) | (with_reducible refine imp_At (fun h => ?_); (try simp only [List.map_eq_nil_iff] at h); (try subst h); try simp -dsimp [hv, hu, hq, hlt2, hw, hwq, hmd, hmem, hi0, hin0, hlu, hs]) | with_reducible refine And.intro ?_ ?_
            all_goals try simp -dsimp [hv, hu, hq, hlt2, hw, hwq, hmd, hmem, hi0, hin0, hlu, hs]
            all_goals try clear hs
            exact At.round ⟨(i + 1, L.erase v), by omega, hLe, hLn, hnext⟩ (by simp; omega) (Weak.of_keep [1,5,23,24,25] (by simp))
      · have hmd : decide (v ∈ L) = false := by simp [hmem]
        have hb : truthB O s = false := by
          refine truth_bad hx0 ?_
          by_cases ho : v ∈ O
          · refine .inr ?_
            cases i with
            | zero => exact absurd (hLv.2 ⟨ho, by simp⟩) hmem
            | succ q =>
              have hq : q < s.length := by omega
              refine ⟨q, s[q], rfl, by simp [hq], Int.not_lt.1 fun hlt3 => hmem (hLv.2 ⟨ho, truthTo_new hto hq hlt3⟩)⟩
          · exact .inl ho
        have hs : True := trivial
        repeat' first | (with_reducible first | refine q01 ?_ | refine q02 ?_ | refine q03 ?_ | refine q04 ?_ | refine q05 ?_ | refine q06 ?_ | refine q07 (by decide) ?_ | refine q08 ?_ | refine q09 ?_ | refine q10 ?_ | refine q11 ?_ | refine q12 ?_ | refine q13 ?_ | refine q14 ?_ | refine q15 ?_ | refine q16 ?_ | refine q17 ?_ | refine And.intro (by omega) ?_) | (with_reducible refine At.fn_ret (by simp -dsimp [hv, hlt2, hmd, hmem, hs]; exact rfl) ?_) | (with_reducible refine At.fn_end (by simp -dsimp [hv, hlt2, hmd, hmem, hs]; exact rfl) ?_) | (with_reducible refine DT_regionE [0, 1, 4, 5, 7, 8, 9, 14, 15, 16, 17, 23, 24, 25, 26, 46] ?_; simp -dsimp [hv, hlt2, hmd, hmem, hs]) | (refine DT_cond rfl (fun h => ?_) (fun h => ?_) <;> (try simp only [nrm] at h) <;> (try exact Bool.noConfusion h)) | (with_reducible refine GStop_split ?_ ?_ <;> intro h <;> have h0 := h <;> (try simp only [nrm] at h) <;> (try exact Bool.noConfusion h) <;> have h2 := h <;> (try simp at h2) <;> (replace hs := And.intro h0 (And.intro h (And.intro h2 hs))) <;> simp -dsimp [h0, h, h2, hv, hlt2, hmd, hmem, hs]) | (with_reducible refine imp_At (fun h => ?_); (try simp only [List.map_eq_nil_iff] at h); (try subst h); try simp -dsimp [hv, hlt2, hmd, hmem, hs]) | with_reducible refine And.intro ?_ ?_
        all_goals try simp -dsimp [hv, hlt2, hmd, hmem, hs]
        all_goals try clear hs
        all_goals simp [hb]
    · have hb : truthB O s = true := truth_good (truthTo_all (by rwa [show i = s.length by omega] at hto))
      have hs : True := trivial
      repeat' first | (with_reducible first | refine q01 ?_ | refine q02 ?_ | refine q03 ?_ | refine q04 ?_ | refine q05 ?_ | refine q06 ?_ | refine q07 (by decide) ?_ | refine q08 ?_ | refine q09 ?_ | refine q10 ?_ | refine q11 ?_ | refine q12 ?_ | refine q13 ?_ | refine q14 ?_ | refine q15 ?_ | refine q16 ?_ | refine q17 ?_ | refine And.intro (by omega) ?_) | (with_reducible refine At.fn_ret (by simp -dsimp [hlt2, hs]; exact rfl) ?_) | (with_reducible refine At.fn_end (by simp -dsimp [hlt2, hs]; exact rfl) ?_) | (with_reducible refine DT_regionE [0, 1, 4, 5, 7, 8, 9, 14, 15, 16, 17, 23, 24, 25, 26, 46] ?_; simp -dsimp [hlt2, hs]) | (refine DT_cond rfl (fun h => ?_) (fun h => ?_) <;> (try simp only [nrm] at h) <;> (try exact Bool.noConfusion h)) | (with_reducible refine GStop_split ?_ ?_ <;> intro h <;> have h0 := h <;> (try simp only [nrm] at h) <;> (try exact Bool.noConfusion h) <;> have h2 := h <;> (try simp at h2) <;> (replace hs := And.intro h0 (And.intro h (And.intro h2 hs))) <;> simp -dsimp [h0, h, h2, hlt2, hs]) | (with_reducible refine imp_At (fun h => ?_); (try simp only [List.map_eq_nil_iff] at h); (try subst h); try simp -dsimp [hlt2, hs]) | with_reducible refine And.intro ?_ ?_
      all_goals try simp -dsimp [hlt2, hs]
      all_goals try clear hs
      all_goals simp [hb]
def askedE (n : Notes) (s : List Int) (m : Int) : Int := if notesE n ≠ 0 then notesE n else if truthB (isort (openL n.notes)) s = false then 31 else if 1 ≤ m ∧ m ≤ 999 then 0 else 2
def askedR (n : Notes) (s : List Int) (m : Int) : DV := if askedE n s m = 0 then .one (.im (fileI n)) else .one (.im (.raw (.pointer none)))
theorem askedR_im (n : Notes) (s : List Int) (m : Int) : ImV (askedR n s m) := by unfold askedR; split <;> simp [fileI]
attribute [simp] askedR_im
theorem asked_ok {n : Notes} {s : List Int} {m : Int} (h : askedE n s m = 0) : notesE n = 0 ∧ truthB (isort (openL n.notes)) s = true ∧ 1 ≤ m ∧ m ≤ 999 := by
  unfold askedE at h
  split at h
  · contradiction
  · split at h
    · cases h
    · split at h
      · rename_i h1 h2 h3; exact ⟨by simpa using h1, by simpa using h2, h3⟩
      · cases h
theorem notes_ok {n : Notes} (h : notesE n = 0) : checkR n.reg = 0 ∧ n.notes.length ≤ 12 ∧ allOk n ∧ (openL n.notes).length ≤ 5 := by
  unfold notesE at h
  split at h
  · contradiction
  · split at h
    · rename_i h1 h2; exact ⟨by simpa using h1, notesB_iff.1 h2⟩
    · cases h
theorem asked_c (n : Notes) (s : List Int) (m : Int) (hG : sheetG G) (hN : noteG G) (hS : SortOk G) (hs : NSm n) (hsl : s.length < 1000) (objs : List DObj) : DCall Tryd.prog G 51 [notesv n, isv s, iv m] objs (fun rr objs' => rr = .tup [askedR n s m, iv (askedE n s m)] ∧ objs' = objs) := by
  refine DCall.frame ?_ (by simp) (by simp) objs
  refine DCall_intro Tryd.func51 rfl Tryd.ntmps51 (by simp) rfl ?_
  try simp only [notesv, isv, iv]
  have c1 := opened_c n hG hN hS hs
  by_cases h0 : notesE n = 0
  · rw [h0, show fileR n = .one (.im (fileI n)) by unfold fileR; rw [if_pos h0]] at c1
    have hok := notes_ok h0
    have hnl := hs.2.1
    have hol := openL_len n.notes
    have c2 := truth_c (G := G) (.sl (n.reg.map encIssue)) (.sl (n.notes.map encNote)) (.sl ((nums n.reg).map encI)) (isort (openL n.notes)) s (isort_nodup (openL_nodup hok.2.2.1)) (by rw [isort_len]; omega) hsl
    have c3 := in_note (G := G) 1 999 [m] (by simp)
    have hE : askedE n s m = if truthB (isort (openL n.notes)) s = false then 31 else if 1 ≤ m ∧ m ≤ 999 then 0 else 2 := by unfold askedE; rw [if_neg (by simp [h0])]
    simp only [fileI] at c1
    cases ht : truthB (isort (openL n.notes)) s
    · rw [ht] at c2 hE
      have hE : askedE n s m = 31 := by rw [hE]; rfl
      have hs : True := trivial
      repeat' first | (with_reducible first | refine q01 ?_ | refine q02 ?_ | refine q03 ?_ | refine q04 ?_ | refine q05 ?_ | refine q06 ?_ | refine q07 (by decide) ?_ | refine q08 ?_ | refine q09 ?_ | refine q10 ?_ | refine q11 ?_ | refine q12 ?_ | refine q13 ?_ | refine q14 ?_ | refine q15 ?_ | refine q16 ?_ | refine q17 ?_ | refine And.intro (by omega) ?_) | (with_reducible refine At.fn_ret (by simp -dsimp [hs]; exact rfl) ?_) | (with_reducible refine At.fn_end (by simp -dsimp [hs]; exact rfl) ?_) | (refine CallE.pure (c1) ?_; try simp -dsimp [hs]) | (refine CallE.pure (c2) ?_; try simp -dsimp [hs]) | (with_reducible refine DT_regionE [0, 1, 2, 3, 6, 7, 8, 9, 10, 17, 23, 28] ?_; simp -dsimp [hs]) | (refine DT_cond rfl (fun h => ?_) (fun h => ?_) <;> (try simp only [nrm] at h) <;> (try exact Bool.noConfusion h)) | (with_reducible refine GStop_split ?_ ?_ <;> intro h <;> have h0 := h <;> (try simp only [nrm] at h) <;> (try exact Bool.noConfusion h) <;> have h2 := h <;> (try simp at h2) <;> (replace hs := And.intro h0 (And.intro h (And.intro h2 hs))) <;> simp -dsimp [h0, h, h2, hs]) | (with_reducible refine imp_At (fun h => ?_); (try simp only [List.map_eq_nil_iff] at h); (try subst h); try simp -dsimp [hs]) | with_reducible refine And.intro ?_ ?_
      all_goals try simp -dsimp [hs]
      all_goals try clear hs
      all_goals simp [askedR, hE]
    · rw [ht] at c2 hE
      by_cases hm : 1 ≤ m ∧ m ≤ 999
      · have hE : askedE n s m = 0 := by rw [hE, if_neg (by simp), if_pos hm]
        have hin : ([m].all fun x => decide (1 ≤ x) && decide (x ≤ 999)) = true := by simp [hm]
        rw [hin] at c3
        have hs : True := trivial
        repeat' first | (with_reducible first | refine q01 ?_ | refine q02 ?_ | refine q03 ?_ | refine q04 ?_ | refine q05 ?_ | refine q06 ?_ | refine q07 (by decide) ?_ | refine q08 ?_ | refine q09 ?_ | refine q10 ?_ | refine q11 ?_ | refine q12 ?_ | refine q13 ?_ | refine q14 ?_ | refine q15 ?_ | refine q16 ?_ | refine q17 ?_ | refine And.intro (by omega) ?_) | (with_reducible refine At.fn_ret (by simp -dsimp [hs]; exact rfl) ?_) | (with_reducible refine At.fn_end (by simp -dsimp [hs]; exact rfl) ?_) | (refine CallE.pure (c1) ?_; try simp -dsimp [hs]) | (refine CallE.pure (c2) ?_; try simp -dsimp [hs]) | (refine CallE.thaw (c3) ?_ ?_ ?_; (focus (simp; done)); (focus (simp; done)); try simp -dsimp [hs]) | (with_reducible refine DT_regionE [0, 1, 2, 3, 6, 7, 8, 9, 10, 17, 23, 28] ?_; simp -dsimp [hs]) | (refine DT_cond rfl (fun h => ?_) (fun h => ?_) <;> (try simp only [nrm] at h) <;> (try exact Bool.noConfusion h)) | (with_reducible refine GStop_split ?_ ?_ <;> intro h <;> have h0 := h <;> (try simp only [nrm] at h) <;> (try exact Bool.noConfusion h) <;> have h2 := h <;> (try simp at h2) <;> (replace hs := And.intro h0 (And.intro h (And.intro h2 hs))) <;> simp -dsimp [h0, h, h2, hs]) | (with_reducible refine imp_At (fun h => ?_); (try simp only [List.map_eq_nil_iff] at h); (try subst h); try simp -dsimp [hs]) | with_reducible refine And.intro ?_ ?_
        all_goals try simp -dsimp [hs]
        all_goals try clear hs
        all_goals simp [askedR, hE, fileI]
      · have hE : askedE n s m = 2 := by rw [hE, if_neg (by simp), if_neg hm]
        have hin : ([m].all fun x => decide (1 ≤ x) && decide (x ≤ 999)) = false := by simp; omega
        rw [hin] at c3
        have hs : True := trivial
        repeat' first | (with_reducible first | refine q01 ?_ | refine q02 ?_ | refine q03 ?_ | refine q04 ?_ | refine q05 ?_ | refine q06 ?_ | refine q07 (by decide) ?_ | refine q08 ?_ | refine q09 ?_ | refine q10 ?_ | refine q11 ?_ | refine q12 ?_ | refine q13 ?_ | refine q14 ?_ | refine q15 ?_ | refine q16 ?_ | refine q17 ?_ | refine And.intro (by omega) ?_) | (with_reducible refine At.fn_ret (by simp -dsimp [hs]; exact rfl) ?_) | (with_reducible refine At.fn_end (by simp -dsimp [hs]; exact rfl) ?_) | (refine CallE.pure (c1) ?_; try simp -dsimp [hs]) | (refine CallE.pure (c2) ?_; try simp -dsimp [hs]) | (refine CallE.thaw (c3) ?_ ?_ ?_; (focus (simp; done)); (focus (simp; done)); try simp -dsimp [hs]) | (with_reducible refine DT_regionE [0, 1, 2, 3, 6, 7, 8, 9, 10, 17, 23, 28] ?_; simp -dsimp [hs]) | (refine DT_cond rfl (fun h => ?_) (fun h => ?_) <;> (try simp only [nrm] at h) <;> (try exact Bool.noConfusion h)) | (with_reducible refine GStop_split ?_ ?_ <;> intro h <;> have h0 := h <;> (try simp only [nrm] at h) <;> (try exact Bool.noConfusion h) <;> have h2 := h <;> (try simp at h2) <;> (replace hs := And.intro h0 (And.intro h (And.intro h2 hs))) <;> simp -dsimp [h0, h, h2, hs]) | (with_reducible refine imp_At (fun h => ?_); (try simp only [List.map_eq_nil_iff] at h); (try subst h); try simp -dsimp [hs]) | with_reducible refine And.intro ?_ ?_
        all_goals try simp -dsimp [hs]
        all_goals try clear hs
        all_goals simp [askedR, hE]
  · rw [show fileR n = .one (.im (.raw (.pointer none))) by unfold fileR; rw [if_neg h0]] at c1
    have hE : askedE n s m = notesE n := by unfold askedE; rw [if_pos h0]
    have hs : True := trivial
    repeat' first | (with_reducible first | refine q01 ?_ | refine q02 ?_ | refine q03 ?_ | refine q04 ?_ | refine q05 ?_ | refine q06 ?_ | refine q07 (by decide) ?_ | refine q08 ?_ | refine q09 ?_ | refine q10 ?_ | refine q11 ?_ | refine q12 ?_ | refine q13 ?_ | refine q14 ?_ | refine q15 ?_ | refine q16 ?_ | refine q17 ?_ | refine And.intro (by omega) ?_) | (with_reducible refine At.fn_ret (by simp -dsimp [h0, hs]; exact rfl) ?_) | (with_reducible refine At.fn_end (by simp -dsimp [h0, hs]; exact rfl) ?_) | (refine CallE.pure (c1) ?_; try simp -dsimp [h0, hs]) | (with_reducible refine DT_regionE [0, 1, 2, 3, 6, 7, 8, 9, 10, 17, 23, 28] ?_; simp -dsimp [h0, hs]) | (refine DT_cond rfl (fun h => ?_) (fun h => ?_) <;> (try simp only [nrm] at h) <;> (try exact Bool.noConfusion h)) | (with_reducible refine GStop_split ?_ ?_ <;> intro h <;> have h0 := h <;> (try simp only [nrm] at h) <;> (try exact Bool.noConfusion h) <;> have h2 := h <;> (try simp at h2) <;> (replace hs := And.intro h0 (And.intro h (And.intro h2 hs))) <;> simp -dsimp [h0, h, h2, h0, hs]) | (with_reducible refine imp_At (fun h => ?_); (try simp only [List.map_eq_nil_iff] at h); (try subst h); try simp -dsimp [h0, hs]) | with_reducible refine And.intro ?_ ?_
    all_goals try simp -dsimp [h0, hs]
    all_goals try clear hs
    all_goals simp [askedR, hE, h0]
def drawnE (n : Notes) (s : List Int) (m d : Int) : Int := if askedE n s m ≠ 0 then askedE n s m else if d ∈ nums n.reg then 0 else 6
def drawnR (n : Notes) (s : List Int) (m d : Int) : DV := if drawnE n s m d = 0 then .one (.im (fileI n)) else .one (.im (.raw (.pointer none)))
theorem drawnR_im (n : Notes) (s : List Int) (m d : Int) : ImV (drawnR n s m d) := by unfold drawnR; split <;> simp [fileI]
attribute [simp] drawnR_im
theorem drawn_c (n : Notes) (s : List Int) (m d : Int) (hG : sheetG G) (hN : noteG G) (hS : SortOk G) (hs : NSm n) (hsl : s.length < 1000) (objs : List DObj) : DCall Tryd.prog G 57 [notesv n, isv s, iv m, iv d] objs (fun rr objs' => rr = .tup [drawnR n s m d, iv (drawnE n s m d)] ∧ objs' = objs) := by
  refine DCall.frame ?_ (by simp) (by simp) objs
  refine DCall_intro Tryd.func57 rfl Tryd.ntmps57 (by simp) rfl ?_
  try simp only [notesv, isv, iv, iv]
  have c1 := asked_c n s m hG hN hS hs hsl
  by_cases h0 : askedE n s m = 0
  · rw [h0, show askedR n s m = .one (.im (fileI n)) by unfold askedR; rw [if_pos h0]] at c1
    have hrl := hs.1.1
    have hnl := numsTo_length n.reg n.reg.length
    have c2 := contains_c (G := G) (nums n.reg) d (by unfold nums; omega)
    have hE : drawnE n s m d = if d ∈ nums n.reg then 0 else 6 := by unfold drawnE; rw [if_neg (by simp [h0])]
    simp only [fileI] at c1
    by_cases hd : d ∈ nums n.reg
    · rw [decide_eq_true hd] at c2
      rw [if_pos hd] at hE
      have hs : True := trivial
      repeat' first | (with_reducible first | refine q01 ?_ | refine q02 ?_ | refine q03 ?_ | refine q04 ?_ | refine q05 ?_ | refine q06 ?_ | refine q07 (by decide) ?_ | refine q08 ?_ | refine q09 ?_ | refine q10 ?_ | refine q11 ?_ | refine q12 ?_ | refine q13 ?_ | refine q14 ?_ | refine q15 ?_ | refine q16 ?_ | refine q17 ?_ | refine And.intro (by omega) ?_) | (with_reducible refine At.fn_ret (by simp -dsimp [hs]; exact rfl) ?_) | (with_reducible refine At.fn_end (by simp -dsimp [hs]; exact rfl) ?_) | (refine CallE.pure (c1) ?_; try simp -dsimp [hs]) | (refine CallE.pure (c2) ?_; try simp -dsimp [hs]) | (with_reducible refine DT_regionE [0, 1, 2, 3, 4, 8, 9, 10, 11, 20, 28] ?_; simp -dsimp [hs]) | (refine DT_cond rfl (fun h => ?_) (fun h => ?_) <;> (try simp only [nrm] at h) <;> (try exact Bool.noConfusion h)) | (with_reducible refine GStop_split ?_ ?_ <;> intro h <;> have h0 := h <;> (try simp only [nrm] at h) <;> (try exact Bool.noConfusion h) <;> have h2 := h <;> (try simp at h2) <;> (replace hs := And.intro h0 (And.intro h (And.intro h2 hs))) <;> simp -dsimp [h0, h, h2, hs]) | (with_reducible refine imp_At (fun h => ?_); (try simp only [List.map_eq_nil_iff] at h); (try subst h); try simp -dsimp [hs]) | with_reducible refine And.intro ?_ ?_
      all_goals try simp -dsimp [hs]
      all_goals try clear hs
      all_goals simp [drawnR, hE, fileI]
    · rw [decide_eq_false hd] at c2
      rw [if_neg hd] at hE
      have hs : True := trivial
      repeat' first | (with_reducible first | refine q01 ?_ | refine q02 ?_ | refine q03 ?_ | refine q04 ?_ | refine q05 ?_ | refine q06 ?_ | refine q07 (by decide) ?_ | refine q08 ?_ | refine q09 ?_ | refine q10 ?_ | refine q11 ?_ | refine q12 ?_ | refine q13 ?_ | refine q14 ?_ | refine q15 ?_ | refine q16 ?_ | refine q17 ?_ | refine And.intro (by omega) ?_) | (with_reducible refine At.fn_ret (by simp -dsimp [hs]; exact rfl) ?_) | (with_reducible refine At.fn_end (by simp -dsimp [hs]; exact rfl) ?_) | (refine CallE.pure (c1) ?_; try simp -dsimp [hs]) | (refine CallE.pure (c2) ?_; try simp -dsimp [hs]) | (with_reducible refine DT_regionE [0, 1, 2, 3, 4, 8, 9, 10, 11, 20, 28] ?_; simp -dsimp [hs]) | (refine DT_cond rfl (fun h => ?_) (fun h => ?_) <;> (try simp only [nrm] at h) <;> (try exact Bool.noConfusion h)) | (with_reducible refine GStop_split ?_ ?_ <;> intro h <;> have h0 := h <;> (try simp only [nrm] at h) <;> (try exact Bool.noConfusion h) <;> have h2 := h <;> (try simp at h2) <;> (replace hs := And.intro h0 (And.intro h (And.intro h2 hs))) <;> simp -dsimp [h0, h, h2, hs]) | (with_reducible refine imp_At (fun h => ?_); (try simp only [List.map_eq_nil_iff] at h); (try subst h); try simp -dsimp [hs]) | with_reducible refine And.intro ?_ ?_
      all_goals try simp -dsimp [hs]
      all_goals try clear hs
      all_goals simp [drawnR, hE]
  · rw [show askedR n s m = .one (.im (.raw (.pointer none))) by unfold askedR; rw [if_neg h0]] at c1
    have hE : drawnE n s m d = askedE n s m := by unfold drawnE; rw [if_pos h0]
    have hs : True := trivial
    repeat' first | (with_reducible first | refine q01 ?_ | refine q02 ?_ | refine q03 ?_ | refine q04 ?_ | refine q05 ?_ | refine q06 ?_ | refine q07 (by decide) ?_ | refine q08 ?_ | refine q09 ?_ | refine q10 ?_ | refine q11 ?_ | refine q12 ?_ | refine q13 ?_ | refine q14 ?_ | refine q15 ?_ | refine q16 ?_ | refine q17 ?_ | refine And.intro (by omega) ?_) | (with_reducible refine At.fn_ret (by simp -dsimp [h0, hs]; exact rfl) ?_) | (with_reducible refine At.fn_end (by simp -dsimp [h0, hs]; exact rfl) ?_) | (refine CallE.pure (c1) ?_; try simp -dsimp [h0, hs]) | (with_reducible refine DT_regionE [0, 1, 2, 3, 4, 8, 9, 10, 11, 20, 28] ?_; simp -dsimp [h0, hs]) | (refine DT_cond rfl (fun h => ?_) (fun h => ?_) <;> (try simp only [nrm] at h) <;> (try exact Bool.noConfusion h)) | (with_reducible refine GStop_split ?_ ?_ <;> intro h <;> have h0 := h <;> (try simp only [nrm] at h) <;> (try exact Bool.noConfusion h) <;> have h2 := h <;> (try simp at h2) <;> (replace hs := And.intro h0 (And.intro h (And.intro h2 hs))) <;> simp -dsimp [h0, h, h2, h0, hs]) | (with_reducible refine imp_At (fun h => ?_); (try simp only [List.map_eq_nil_iff] at h); (try subst h); try simp -dsimp [h0, hs]) | with_reducible refine And.intro ?_ ?_
    all_goals try simp -dsimp [h0, hs]
    all_goals try clear hs
    all_goals simp [drawnR, hE, h0]
end Go.Proofs
