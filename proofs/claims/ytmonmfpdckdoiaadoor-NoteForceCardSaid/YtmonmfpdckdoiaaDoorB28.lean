/- Part 28 of the proof whose last text closes the card: laws and walks that hold without conditions beyond those that each theorem names. -/
import Derived.Test.YtmonmfpdckdoiaaDoorB26
import Derived.Test.YtmonmfpdckdoiaaDoorB27
set_option linter.all false
set_option linter.deprecated false
namespace Go.Proofs
open Go Go.Ab
set_option linter.unusedSimpArgs false
variable {G : Nat → Option (List IC)}
def frcCaps : List DC := [.ptr 5 0, .ptr 0 0, .ptr 1 0, .ptr 2 0, .ptr 3 0, .ptr 6 0]
def frcObjs (n : Notes) (s w : List Int) (m : Int) (M : List (Int × Bool)) : List DObj := [.row [.im (fileI n)], .row [.im (.sl (s.map encI))], .row [.im (.sl (w.map encI))], .row [.im (rI m)], .map [.int .i64] (encMB M), .row [.map 4], .row [.fn (.func 98) frcCaps]]
theorem force_c (n : Notes) (s w : List Int) (m : Int) : DCall Tryd.prog G 52 [.one (.im (fileI n)), isv s, isv w, iv m] [] (fun d o => d = .one (.fn (.func 98) frcCaps) ∧ o = frcObjs n s w m []) := by
  refine DCall_intro Tryd.func52 rfl Tryd.ntmps52 (by simp) rfl ?_
  simp only [isv, iv]
  have hs : True := trivial
  repeat' first | (with_reducible first | refine q01 ?_ | refine q02 ?_ | refine q03 ?_ | refine q04 ?_ | refine q05 ?_ | refine q06 ?_ | refine q07 (by decide) ?_ | refine q08 ?_ | refine q09 ?_ | refine q10 ?_ | refine q11 ?_ | refine q12 ?_ | refine q13 ?_ | refine q14 ?_ | refine q15 ?_ | refine q16 ?_ | refine q17 ?_ | refine And.intro (by omega) ?_) | (with_reducible refine At.fn_ret (by simp -dsimp [hs]; exact rfl) ?_) | (with_reducible refine At.fn_end (by simp -dsimp [hs]; exact rfl) ?_) | (with_reducible refine DT_regionE [0, 1, 2, 3, 4, 5, 6, 7, 8, 9, 10] ?_; simp -dsimp [hs]) | (refine DT_cond rfl (fun h => ?_) (fun h => ?_) <;> (try simp only [nrm] at h) <;> (try exact Bool.noConfusion h)) | (with_reducible refine GStop_split ?_ ?_ <;> intro h <;> have h0 := h <;> (try simp only [nrm] at h) <;> (try exact Bool.noConfusion h) <;> have h2 := h <;> (try simp at h2) <;> (replace hs := And.intro h0 (And.intro h (And.intro h2 hs))) <;> simp -dsimp [h0, h, h2, hs]) | (with_reducible refine imp_At (fun h => ?_); (try simp only [List.map_eq_nil_iff] at h); (try subst h); try simp -dsimp [hs]) | with_reducible refine And.intro ?_ ?_
  all_goals try simp -dsimp [hs]
  all_goals try clear hs
  · rfl
  · simp [frcObjs, frcCaps, encMB]
def frcAt (n : Notes) (s w : List Int) (m : Int) (i : Nat) : Bool := ((frcL s w m n.notes)[i]?).getD false
def ConsM (n : Notes) (s w : List Int) (m : Int) (M : List (Int × Bool)) : Prop := ∀ (k : Nat) (b : Bool), blook (k : Int) M = some b → frcAt n s w m k = b
theorem ConsM.nil (n : Notes) (s w : List Int) (m : Int) : ConsM n s w m [] := fun k b h => by cases h
theorem ConsM.put {n : Notes} {s w : List Int} {m : Int} {M : List (Int × Bool)} (h : ConsM n s w m M) (i : Nat) {b : Bool} (hb : frcAt n s w m i = b) : ConsM n s w m (bput (i : Int) b M) := fun k c hk => by
  rw [blook_bput] at hk
  split at hk
  · rename_i e
    obtain rfl : i = k := by omega
    cases hk; exact hb
  · exact h k c hk
theorem frcAt_eq {n : Notes} {s w : List Int} {m : Int} {i : Nat} (hi : i < n.notes.length) : frcAt n s w m i = (frcB s w m n.notes[i] && frcO n.notes[i].number (n.notes.drop (i + 1)) ((frcL s w m n.notes).drop (i + 1))) := by
  have hl : i < (frcL s w m n.notes).length := by rw [frcL_len]; exact hi
  rw [← frcL_at hi hl, frcAt, List.getElem?_eq_getElem hl]; rfl
theorem frcAt_step {n : Notes} {s w : List Int} {m a : Int} {k : Nat} (hk : k < n.notes.length) : frcO a (n.notes.drop k) ((frcL s w m n.notes).drop k) = (!(frcAt n s w m k && decide (n.notes[k].cancels = a)) && frcO a (n.notes.drop (k + 1)) ((frcL s w m n.notes).drop (k + 1))) := by
  have hl : k < (frcL s w m n.notes).length := by rw [frcL_len]; exact hk
  rw [frcO_step hk hl, frcAt, List.getElem?_eq_getElem hl]; rfl
set_option maxHeartbeats 4000000 in
theorem is_c (n : Notes) (s w : List Int) (m : Int) (hl : n.notes.length < 1000) (hsl : s.length < 1000) (hwl : w.length < 1000) : ∀ (d i : Nat), n.notes.length - i ≤ d → i < n.notes.length → ∀ M, ConsM n s w m M →
    DCall Tryd.prog G 98 (iv (i : Int) :: frcCaps.map .one) (frcObjs n s w m M) (fun r o => ∃ M', ConsM n s w m M' ∧ r = bv (frcAt n s w m i) ∧ o = frcObjs n s w m M') := by
  intro d
  induction d with
  | zero => intro i h1 h2; omega
  | succ d ih =>
    intro i hid hi M hM
    simp only [frcObjs, frcCaps, fileI, iv, bv, rI, List.map_cons, List.map_nil] at ih ⊢
    refine DCall.drop ?_
    refine DCall_intro Tryd.func98 rfl Tryd.ntmps98 (by simp) rfl ?_
    cases hb : blook (i : Int) M with
    | some b =>
      have hf := hM i b hb
      have hs : True := trivial
      repeat' first | (with_reducible first | refine q01 ?_ | refine q02 ?_ | refine q03 ?_ | refine q04 ?_ | refine q05 ?_ | refine q06 ?_ | refine q07 (by decide) ?_ | refine q08 ?_ | refine q09 ?_ | refine q10 ?_ | refine q11 ?_ | refine q12 ?_ | refine q13 ?_ | refine q14 ?_ | refine q15 ?_ | refine q16 ?_ | refine q17 ?_ | refine And.intro (by omega) ?_) | (with_reducible refine At.fn_ret (by simp -dsimp [hb, hs]; exact rfl) ?_) | (with_reducible refine At.fn_end (by simp -dsimp [hb, hs]; exact rfl) ?_) | (refine DT_regionM (id := 9) (nt := 92) 15 [0, 1, 2, 3, 4, 5, 6, 8, 9, 10, 11, 12, 13, 20, 67] mixed rfl (by kernel_rfl) ?_; simp -dsimp [hb, hs]) | (with_reducible refine DT_regionE [0, 1, 2, 3, 4, 5, 6, 8, 9, 10, 11, 12, 13, 20, 67] ?_; simp -dsimp [hb, hs]) | (refine DT_cond rfl (fun h => ?_) (fun h => ?_) <;> (try simp only [nrm] at h) <;> (try exact Bool.noConfusion h)) | (with_reducible refine GStop_split ?_ ?_ <;> intro h <;> have h0 := h <;> (try simp only [nrm] at h) <;> (try exact Bool.noConfusion h) <;> have h2 := h <;> (try simp at h2) <;> (replace hs := And.intro h0 (And.intro h (And.intro h2 hs))) <;> simp -dsimp [h0, h, h2, hb, hs]) | (with_reducible refine imp_At (fun h => ?_); (try simp only [List.map_eq_nil_iff] at h); (try subst h); try simp -dsimp [hb, hs]) | with_reducible refine And.intro ?_ ?_
      all_goals try simp -dsimp [hb, hs]
      all_goals try clear hs
      exact ⟨M, hM, by rw [hf], rfl⟩
    | none =>
      generalize hx : n.notes[i] = x at *
      have hF := frcAt_eq (s := s) (w := w) (m := m) hi
      rw [hx] at hF
      have hwi : IntKind.i64.wrap ((i : Int) + 1) = ((i + 1 : Nat) : Int) := i64w (by omega) (by omega)
      have c1 := contains_c (G := G) s x.number (by omega)
      have c2 := contains_c (G := G) w x.number (by omega)
      have c3 := in_note (G := G) x.frm x.to [m] (by simp)
      rw [show ([m].all fun z => decide (x.frm ≤ z) && decide (z ≤ x.to)) = (decide (x.frm ≤ m) && decide (m ≤ x.to)) by simp] at c3
      have hs : True := trivial
      repeat' first | (with_reducible first | refine q01 ?_ | refine q02 ?_ | refine q03 ?_ | refine q04 ?_ | refine q05 ?_ | refine q06 ?_ | refine q07 (by decide) ?_ | refine q08 ?_ | refine q09 ?_ | refine q10 ?_ | refine q11 ?_ | refine q12 ?_ | refine q13 ?_ | refine q14 ?_ | refine q15 ?_ | refine q16 ?_ | refine q17 ?_ | refine And.intro (by omega) ?_) | (with_reducible refine At.fn_ret (by simp -dsimp [hb, hx, hi, hwi, hs]; exact rfl) ?_) | (with_reducible refine At.fn_end (by simp -dsimp [hb, hx, hi, hwi, hs]; exact rfl) ?_) | (refine CallE.pure (c1) ?_; try simp -dsimp [hb, hx, hi, hwi, hs]) | (refine CallE.pure (c2) ?_; try simp -dsimp [hb, hx, hi, hwi, hs]) | (refine CallE.thaw (c3) ?_ ?_ ?_; (focus (simp; done)); (focus (simp; done)); try simp -dsimp [hb, hx, hi, hwi, hs]) | (refine DT_regionM (id := 9) (nt := 92) 15 [0, 1, 2, 3, 4, 5, 6, 8, 9, 10, 11, 12, 13, 20, 67] mixed rfl (by kernel_rfl) ?_; simp -dsimp [hb, hx, hi, hwi, hs]) | (with_reducible refine DT_regionE [0, 1, 2, 3, 4, 5, 6, 8, 9, 10, 11, 12, 13, 20, 67] ?_; simp -dsimp [hb, hx, hi, hwi, hs]) | (refine DT_cond rfl (fun h => ?_) (fun h => ?_) <;> (try simp only [nrm] at h) <;> (try exact Bool.noConfusion h)) | (with_reducible refine GStop_split ?_ ?_ <;> intro h <;> have h0 := h <;> (try simp only [nrm] at h) <;> (try exact Bool.noConfusion h) <;> have h2 := h <;> (try simp at h2) <;> (replace hs := And.intro h0 (And.intro h (And.intro h2 hs))) <;> simp -dsimp [h0, h, h2, hb, hx, hi, hwi, hs]) | (with_reducible refine imp_At (fun h => ?_); (try simp only [List.map_eq_nil_iff] at h); (try subst h); try simp -dsimp [hb, hx, hi, hwi, hs]) | with_reducible refine And.intro ?_ ?_
      all_goals try simp -dsimp [hb, hx, hi, hwi, hs]
      all_goals try clear hs
      all_goals
        refine DT_loop (ι := { p : Nat × Bool × List (Int × Bool) // i + 1 ≤ p.1 ∧ p.1 ≤ n.notes.length ∧ ConsM n s w m p.2.2 ∧ frcAt n s w m i = (p.2.1 && frcO x.number (n.notes.drop p.1) ((frcL s w m n.notes).drop p.1)) }) (fun p => ⟨92, [(0, iv (i : Int)), (1, .one (.ptr 5 0)), (2, .one (.ptr 0 0)), (3, .one (.ptr 1 0)), (4, .one (.ptr 2 0)), (5, .one (.ptr 3 0)), (6, .one (.ptr 6 0)), (11, .one (.ptr 7 0)), (12, bv p.1.2.1), (13, iv (p.1.1 : Int))], [.row [.im (.ip [.sl (n.reg.map encIssue), .sl (n.notes.map encNote), .sl ((nums n.reg).map encI), .sl ((isort (openL n.notes)).map encI)])], .row [.im (.sl (s.map encI))], .row [.im (.sl (w.map encI))], .row [.im (rI m)], .map [.int .i64] (encMB p.1.2.2), .row [.map 4], .row [.fn (.func 98) [.ptr 5 0, .ptr 0 0, .ptr 1 0, .ptr 2 0, .ptr 3 0, .ptr 6 0]], .row ((encNote x).map .im)]⟩) (fun p => n.notes.length - p.1.1) ⟨(i + 1, frcB s w m x, M), by simp, by simp; omega, hM, hF⟩ (Weak.of_drop [0,1,2,3,4,5,6,11,12,13] 8 (by simp) (by simp) (by clear c1 c2 c3 ih; simp [frcB, *])) ?_
      all_goals
        clear c1 c2 c3 hF hM hb
        rintro ⟨⟨k, v, M2⟩, hk1, hk2, hM2, hv⟩
        simp only at hk1 hk2 hM2 hv
        simp only [iv, bv]
        cases v
        · have hM3 := hM2.put i hv
          have hs : True := trivial
          repeat' first | (with_reducible first | refine q01 ?_ | refine q02 ?_ | refine q03 ?_ | refine q04 ?_ | refine q05 ?_ | refine q06 ?_ | refine q07 (by decide) ?_ | refine q08 ?_ | refine q09 ?_ | refine q10 ?_ | refine q11 ?_ | refine q12 ?_ | refine q13 ?_ | refine q14 ?_ | refine q15 ?_ | refine q16 ?_ | refine q17 ?_ | refine And.intro (by omega) ?_) | (with_reducible refine At.fn_ret (by simp -dsimp [hs]; exact rfl) ?_) | (with_reducible refine At.fn_end (by simp -dsimp [hs]; exact rfl) ?_) | (refine DT_regionM (id := 9) (nt := 92) 15 [0, 1, 2, 3, 4, 5, 6, 8, 9, 10, 11, 12, 13, 20, 67] mixed rfl (by kernel_rfl) ?_; simp -dsimp [hs]) | (with_reducible refine DT_regionE [0, 1, 2, 3, 4, 5, 6, 8, 9, 10, 11, 12, 13, 20, 67] ?_; simp -dsimp [hs]) | (refine DT_cond rfl (fun h => ?_) (fun h => ?_) <;> (try simp only [nrm] at h) <;> (try exact Bool.noConfusion h)) | (with_reducible refine GStop_split ?_ ?_ <;> intro h <;> have h0 := h <;> (try simp only [nrm] at h) <;> (try exact Bool.noConfusion h) <;> have h2 := h <;> (try simp at h2) <;> (replace hs := And.intro h0 (And.intro h (And.intro h2 hs))) <;> simp -dsimp [h0, h, h2, hs]) | (with_reducible refine imp_At (fun h => ?_); (try simp only [List.map_eq_nil_iff] at h); (try subst h); try simp -dsimp [hs]) | with_reducible refine And.intro ?_ ?_
          all_goals try simp -dsimp [hs]
          all_goals try clear hs
          all_goals exact ⟨_, hM3, by rw [hv]; rfl, rfl⟩
        · by_cases hlk : k < n.notes.length
          · have hwk : IntKind.i64.wrap ((k : Int) + 1) = ((k + 1 : Nat) : Int) := i64w (by omega) (by omega)
            have hih := ih k (by omega) hlk M2 hM2
            rw [Bool.true_and, frcAt_step hlk] at hv
            generalize hy : n.notes[k] = y at *
            by_cases hc : y.cancels = x.number
            · have hvb : ∀ b, frcAt n s w m k = b → frcAt n s w m i = (!b && frcO x.number (n.notes.drop (k + 1)) ((frcL s w m n.notes).drop (k + 1))) := fun b hb => by
                rw [hv, hb, decide_eq_true hc, Bool.and_true]
              have hs : True := trivial
              repeat' first | (with_reducible first | refine q01 ?_ | refine q02 ?_ | refine q03 ?_ | refine q04 ?_ | refine q05 ?_ | refine q06 ?_ | refine q07 (by decide) ?_ | refine q08 ?_ | refine q09 ?_ | refine q10 ?_ | refine q11 ?_ | refine q12 ?_ | refine q13 ?_ | refine q14 ?_ | refine q15 ?_ | refine q16 ?_ | refine q17 ?_ | refine And.intro (by omega) ?_) | (with_reducible refine At.fn_ret (by simp -dsimp [hx, hy, hlk, hwk, hc, hs]; exact rfl) ?_) | (with_reducible refine At.fn_end (by simp -dsimp [hx, hy, hlk, hwk, hc, hs]; exact rfl) ?_) | (refine CallE.embed_ex [0,1,2,3,4,5,6] (hih) ?_ ?_ ?_ ?_ ?_ ?_; (focus (simp [emb]; done)); (focus (simp; done)); (focus (simp; done)); (focus (simp; done)); (focus (refine emb_all ?_; simp [emb, embAll]; done)); intro mm hmm; try simp -dsimp [mergeO, emb, hx, hy, hlk, hwk, hc, hs]) | (refine DT_regionM (id := 9) (nt := 92) 15 [0, 1, 2, 3, 4, 5, 6, 8, 9, 10, 11, 12, 13, 20, 67] mixed rfl (by kernel_rfl) ?_; simp -dsimp [hx, hy, hlk, hwk, hc, hs]) | (with_reducible refine DT_regionE [0, 1, 2, 3, 4, 5, 6, 8, 9, 10, 11, 12, 13, 20, 67] ?_; simp -dsimp [hx, hy, hlk, hwk, hc, hs]) | (refine DT_cond rfl (fun h => ?_) (fun h => ?_) <;> (try simp only [nrm] at h) <;> (try exact Bool.noConfusion h)) | (with_reducible refine GStop_split ?_ ?_ <;> intro h <;> have h0 := h <;> (try simp only [nrm] at h) <;> (try exact Bool.noConfusion h) <;> have h2 := h <;> (try simp at h2) <;> (replace hs := And.intro h0 (And.intro h (And.intro h2 hs))) <;> simp -dsimp [h0, h, h2, hx, hy, hlk, hwk, hc, hs]) | (with_reducible refine imp_At (fun h => ?_); (try simp only [List.map_eq_nil_iff] at h); (try subst h); try simp -dsimp [hx, hy, hlk, hwk, hc, hs]) | with_reducible refine And.intro ?_ ?_
              all_goals try simp -dsimp [hx, hy, hlk, hwk, hc, hs]
              all_goals try clear hs
              all_goals exact At.round ⟨(k + 1, !frcAt n s w m k, mm), by simp only; omega, by simp only; omega, hmm, hvb _ rfl⟩ (by simp only; omega) (Weak.of_drop [0,1,2,3,4,5,6,11,12,13] 8 (by simp) (by simp) (by simp))
            · rw [decide_eq_false hc, Bool.and_false, Bool.not_false, Bool.true_and] at hv
              have hs : True := trivial
              repeat' first | (with_reducible first | refine q01 ?_ | refine q02 ?_ | refine q03 ?_ | refine q04 ?_ | refine q05 ?_ | refine q06 ?_ | refine q07 (by decide) ?_ | refine q08 ?_ | refine q09 ?_ | refine q10 ?_ | refine q11 ?_ | refine q12 ?_ | refine q13 ?_ | refine q14 ?_ | refine q15 ?_ | refine q16 ?_ | refine q17 ?_ | refine And.intro (by omega) ?_) | (with_reducible refine At.fn_ret (by simp -dsimp [hx, hy, hlk, hwk, hc, hs]; exact rfl) ?_) | (with_reducible refine At.fn_end (by simp -dsimp [hx, hy, hlk, hwk, hc, hs]; exact rfl) ?_) | (refine DT_regionM (id := 9) (nt := 92) 15 [0, 1, 2, 3, 4, 5, 6, 8, 9, 10, 11, 12, 13, 20, 67] mixed rfl (by kernel_rfl) ?_; simp -dsimp [hx, hy, hlk, hwk, hc, hs]) | (with_reducible refine DT_regionE [0, 1, 2, 3, 4, 5, 6, 8, 9, 10, 11, 12, 13, 20, 67] ?_; simp -dsimp [hx, hy, hlk, hwk, hc, hs]) | (refine DT_cond rfl (fun h => ?_) (fun h => ?_) <;> (try simp only [nrm] at h) <;> (try exact Bool.noConfusion h)) | (with_reducible refine GStop_split ?_ ?_ <;> intro h <;> have h0 := h <;> (try simp only [nrm] at h) <;> (try exact Bool.noConfusion h) <;> have h2 := h <;> (try simp at h2) <;> (replace hs := And.intro h0 (And.intro h (And.intro h2 hs))) <;> simp -dsimp [h0, h, h2, hx, hy, hlk, hwk, hc, hs]) | (with_reducible refine imp_At (fun h => ?_); (try simp only [List.map_eq_nil_iff] at h); (try subst h); try simp -dsimp [hx, hy, hlk, hwk, hc, hs]) | with_reducible refine And.intro ?_ ?_
              all_goals try simp -dsimp [hx, hy, hlk, hwk, hc, hs]
              all_goals try clear hs
              all_goals exact At.round ⟨(k + 1, true, M2), by simp only; omega, by simp only; omega, hM2, by rw [hv, Bool.true_and]⟩ (by simp only; omega) (Weak.of_drop [0,1,2,3,4,5,6,11,12,13] 8 (by simp) (by simp) (by simp))
          · rw [frcO_end (by omega), Bool.and_true] at hv
            have hM3 := hM2.put i hv
            have hs : True := trivial
            repeat' first | (with_reducible first | refine q01 ?_ | refine q02 ?_ | refine q03 ?_ | refine q04 ?_ | refine q05 ?_ | refine q06 ?_ | refine q07 (by decide) ?_ | refine q08 ?_ | refine q09 ?_ | refine q10 ?_ | refine q11 ?_ | refine q12 ?_ | refine q13 ?_ | refine q14 ?_ | refine q15 ?_ | refine q16 ?_ | refine q17 ?_ | refine And.intro (by omega) ?_) | (with_reducible refine At.fn_ret (by simp -dsimp [hlk, hs]; exact rfl) ?_) | (with_reducible refine At.fn_end (by simp -dsimp [hlk, hs]; exact rfl) ?_) | (refine DT_regionM (id := 9) (nt := 92) 15 [0, 1, 2, 3, 4, 5, 6, 8, 9, 10, 11, 12, 13, 20, 67] mixed rfl (by kernel_rfl) ?_; simp -dsimp [hlk, hs]) | (with_reducible refine DT_regionE [0, 1, 2, 3, 4, 5, 6, 8, 9, 10, 11, 12, 13, 20, 67] ?_; simp -dsimp [hlk, hs]) | (refine DT_cond rfl (fun h => ?_) (fun h => ?_) <;> (try simp only [nrm] at h) <;> (try exact Bool.noConfusion h)) | (with_reducible refine GStop_split ?_ ?_ <;> intro h <;> have h0 := h <;> (try simp only [nrm] at h) <;> (try exact Bool.noConfusion h) <;> have h2 := h <;> (try simp at h2) <;> (replace hs := And.intro h0 (And.intro h (And.intro h2 hs))) <;> simp -dsimp [h0, h, h2, hlk, hs]) | (with_reducible refine imp_At (fun h => ?_); (try simp only [List.map_eq_nil_iff] at h); (try subst h); try simp -dsimp [hlk, hs]) | with_reducible refine And.intro ?_ ?_
            all_goals try simp -dsimp [hlk, hs]
            all_goals try clear hs
            all_goals exact ⟨_, hM3, by rw [hv], rfl⟩
end Go.Proofs
namespace Go.Proofs
open Go Go.Ab
set_option linter.unusedSimpArgs false
variable {G : Nat → Option (List IC)}
def byF (n : Notes) (s w : List Int) (m d : Int) (k : Nat) : Note := byN n.notes (frcL s w m n.notes) d k
theorem byF_succ {n : Notes} {s w : List Int} {m d : Int} {k : Nat} (hk : k < n.notes.length) : byF n s w m d (k + 1) = if n.notes[k].drawing = d ∧ frcAt n s w m k = true then n.notes[k] else byF n s w m d k := by
  have hl : k < (frcL s w m n.notes).length := by rw [frcL_len]; exact hk
  unfold byF frcAt
  simp only [byN, List.getElem?_eq_getElem hk, List.getElem?_eq_getElem hl, Option.some.injEq, Option.getD_some]
  by_cases h : (frcL s w m n.notes)[k] = true <;> by_cases h2 : n.notes[k].drawing = d <;> simp [h, h2]
set_option maxHeartbeats 1000000 in
theorem by_c (n : Notes) (s w : List Int) (m d : Int) (hl : n.notes.length < 1000) (hsl : s.length < 1000) (hwl : w.length < 1000) (M : List (Int × Bool)) (hM : ConsM n s w m M) :
    DCall Tryd.prog G 58 [.one (.im (fileI n)), .one (.fn (.func 98) frcCaps), iv d] (frcObjs n s w m M) (fun r o => ∃ M', ConsM n s w m M' ∧ r = notev (byF n s w m d n.notes.length) ∧ o = frcObjs n s w m M') := by
  have ih := fun i hi M hM => is_c (G := G) n s w m hl hsl hwl n.notes.length i (by omega) hi M hM
  simp only [frcObjs, frcCaps, fileI, iv, bv, rI, notev, encNote, rB, List.map_cons, List.map_nil] at ih ⊢
  refine DCall.drop ?_
  refine DCall_intro Tryd.func58 rfl Tryd.ntmps58 (by simp) rfl ?_
  have hw0 : IntKind.i64.wrap ((n.notes.length : Int) - 1) = (n.notes.length : Int) - 1 := i64w (by omega) (by omega)
  have hs : True := trivial
  repeat' first | (with_reducible first | refine q01 ?_ | refine q02 ?_ | refine q03 ?_ | refine q04 ?_ | refine q05 ?_ | refine q06 ?_ | refine q07 (by decide) ?_ | refine q08 ?_ | refine q09 ?_ | refine q10 ?_ | refine q11 ?_ | refine q12 ?_ | refine q13 ?_ | refine q14 ?_ | refine q15 ?_ | refine q16 ?_ | refine q17 ?_ | refine And.intro (by omega) ?_) | (with_reducible refine At.fn_ret (by simp -dsimp [hw0, hs]; exact rfl) ?_) | (with_reducible refine At.fn_end (by simp -dsimp [hw0, hs]; exact rfl) ?_) | (with_reducible refine DT_regionE [0, 1, 2, 6, 7, 8, 17, 36] ?_; simp -dsimp [hw0, hs]) | (refine DT_cond rfl (fun h => ?_) (fun h => ?_) <;> (try simp only [nrm] at h) <;> (try exact Bool.noConfusion h)) | (with_reducible refine GStop_split ?_ ?_ <;> intro h <;> have h0 := h <;> (try simp only [nrm] at h) <;> (try exact Bool.noConfusion h) <;> have h2 := h <;> (try simp at h2) <;> (replace hs := And.intro h0 (And.intro h (And.intro h2 hs))) <;> simp -dsimp [h0, h, h2, hw0, hs]) | (with_reducible refine imp_At (fun h => ?_); (try simp only [List.map_eq_nil_iff] at h); (try subst h); try simp -dsimp [hw0, hs]) | with_reducible refine And.intro ?_ ?_
  all_goals try simp -dsimp [hw0, hs]
  all_goals try clear hs
  refine DT_loop (ι := { p : Nat × List (Int × Bool) // p.1 ≤ n.notes.length ∧ ConsM n s w m p.2 ∧ byF n s w m d n.notes.length = byF n s w m d p.1 }) (fun p => ⟨39, [(0, .one (.im (.ip [.sl (n.reg.map encIssue), .sl (n.notes.map encNote), .sl ((nums n.reg).map encI), .sl ((isort (openL n.notes)).map encI)]))), (1, .one (.fn (.func 98) [.ptr 5 0, .ptr 0 0, .ptr 1 0, .ptr 2 0, .ptr 3 0, .ptr 6 0])), (2, iv d), (6, .one (.ptr 7 0)), (7, iv ((p.1.1 : Int) - 1))], [.row [.im (.ip [.sl (n.reg.map encIssue), .sl (n.notes.map encNote), .sl ((nums n.reg).map encI), .sl ((isort (openL n.notes)).map encI)])], .row [.im (.sl (s.map encI))], .row [.im (.sl (w.map encI))], .row [.im (rI m)], .map [.int .i64] (encMB p.1.2), .row [.map 4], .row [.fn (.func 98) [.ptr 5 0, .ptr 0 0, .ptr 1 0, .ptr 2 0, .ptr 3 0, .ptr 6 0]], .row ((encNote ⟨0, 0, 0, 0, 0, 0, 0, 0, false, 0⟩).map .im)]⟩) (fun p => p.1.1) ⟨(n.notes.length, M), by simp, hM, rfl⟩ (Weak.of_keep [0,1,2,6,7] (by simp)) ?_
  clear hM
  rintro ⟨⟨k, M2⟩, hk, hM2, hv⟩
  simp only at hk hM2 hv
  simp only [iv]
  cases k with
  | zero =>
    have hs : True := trivial
    repeat' first | (with_reducible first | refine q01 ?_ | refine q02 ?_ | refine q03 ?_ | refine q04 ?_ | refine q05 ?_ | refine q06 ?_ | refine q07 (by decide) ?_ | refine q08 ?_ | refine q09 ?_ | refine q10 ?_ | refine q11 ?_ | refine q12 ?_ | refine q13 ?_ | refine q14 ?_ | refine q15 ?_ | refine q16 ?_ | refine q17 ?_ | refine And.intro (by omega) ?_) | (with_reducible refine At.fn_ret (by simp -dsimp [hs]; exact rfl) ?_) | (with_reducible refine At.fn_end (by simp -dsimp [hs]; exact rfl) ?_) | (with_reducible refine DT_regionE [0, 1, 2, 6, 7, 8, 17, 36] ?_; simp -dsimp [hs]) | (refine DT_cond rfl (fun h => ?_) (fun h => ?_) <;> (try simp only [nrm] at h) <;> (try exact Bool.noConfusion h)) | (with_reducible refine GStop_split ?_ ?_ <;> intro h <;> have h0 := h <;> (try simp only [nrm] at h) <;> (try exact Bool.noConfusion h) <;> have h2 := h <;> (try simp at h2) <;> (replace hs := And.intro h0 (And.intro h (And.intro h2 hs))) <;> simp -dsimp [h0, h, h2, hs]) | (with_reducible refine imp_At (fun h => ?_); (try simp only [List.map_eq_nil_iff] at h); (try subst h); try simp -dsimp [hs]) | with_reducible refine And.intro ?_ ?_
    all_goals try simp -dsimp [hs]
    all_goals try clear hs
    exact ⟨M2, hM2, by rw [hv]; simp [byF, byN, note1], rfl⟩
  | succ k =>
    have hkl : k < n.notes.length := hk
    have hwk : IntKind.i64.wrap ((k : Int) - 1) = (k : Int) - 1 := i64w (by omega) (by omega)
    have hc := ih k hkl M2 hM2
    rw [byF_succ hkl] at hv
    generalize hx : n.notes[k] = x at *
    by_cases hd : x.drawing = d
    · have hs : True := trivial
      repeat' first | (with_reducible first | refine q01 ?_ | refine q02 ?_ | refine q03 ?_ | refine q04 ?_ | refine q05 ?_ | refine q06 ?_ | refine q07 (by decide) ?_ | refine q08 ?_ | refine q09 ?_ | refine q10 ?_ | refine q11 ?_ | refine q12 ?_ | refine q13 ?_ | refine q14 ?_ | refine q15 ?_ | refine q16 ?_ | refine q17 ?_ | refine And.intro (by omega) ?_) | (with_reducible refine At.fn_ret (by simp -dsimp [hx, hkl, hwk, hd, hs]; exact rfl) ?_) | (with_reducible refine At.fn_end (by simp -dsimp [hx, hkl, hwk, hd, hs]; exact rfl) ?_) | (refine CallE.embed_ex [0,1,2,3,4,5,6] (hc) ?_ ?_ ?_ ?_ ?_ ?_; (focus (simp [emb]; done)); (focus (simp; done)); (focus (simp; done)); (focus (simp; done)); (focus (refine emb_all ?_; simp [emb, embAll]; done)); intro mm hmm; try simp -dsimp [mergeO, emb, hx, hkl, hwk, hd, hs]) | (with_reducible refine DT_regionE [0, 1, 2, 6, 7, 8, 17, 36] ?_; simp -dsimp [hx, hkl, hwk, hd, hs]) | (refine DT_cond rfl (fun h => ?_) (fun h => ?_) <;> (try simp only [nrm] at h) <;> (try exact Bool.noConfusion h)) | (with_reducible refine GStop_split ?_ ?_ <;> intro h <;> have h0 := h <;> (try simp only [nrm] at h) <;> (try exact Bool.noConfusion h) <;> have h2 := h <;> (try simp at h2) <;> (replace hs := And.intro h0 (And.intro h (And.intro h2 hs))) <;> simp -dsimp [h0, h, h2, hx, hkl, hwk, hd, hs]) | (with_reducible refine imp_At (fun h => ?_); (try simp only [List.map_eq_nil_iff] at h); (try subst h); try simp -dsimp [hx, hkl, hwk, hd, hs]) | with_reducible refine And.intro ?_ ?_
      all_goals try simp -dsimp [hx, hkl, hwk, hd, hs]
      all_goals try clear hs
      · have e := hv.trans (if_pos ⟨hd, by assumption⟩)
        exact ⟨mm, hmm, by rw [e]; simp [hd], rfl⟩
      · have hf : frcAt n s w m k = false := by assumption
        have e := hv.trans (if_neg fun h => by rw [hf] at h; exact Bool.false_ne_true h.2)
        exact At.round ⟨(k, mm), by simp only; omega, hmm, e⟩ (by simp) (Weak.of_drop [0,1,2,6,7] 8 (by simp) (by simp) (by simp))
    · rw [if_neg fun h => hd h.1] at hv
      have hs : True := trivial
      repeat' first | (with_reducible first | refine q01 ?_ | refine q02 ?_ | refine q03 ?_ | refine q04 ?_ | refine q05 ?_ | refine q06 ?_ | refine q07 (by decide) ?_ | refine q08 ?_ | refine q09 ?_ | refine q10 ?_ | refine q11 ?_ | refine q12 ?_ | refine q13 ?_ | refine q14 ?_ | refine q15 ?_ | refine q16 ?_ | refine q17 ?_ | refine And.intro (by omega) ?_) | (with_reducible refine At.fn_ret (by simp -dsimp [hx, hkl, hwk, hd, hs]; exact rfl) ?_) | (with_reducible refine At.fn_end (by simp -dsimp [hx, hkl, hwk, hd, hs]; exact rfl) ?_) | (with_reducible refine DT_regionE [0, 1, 2, 6, 7, 8, 17, 36] ?_; simp -dsimp [hx, hkl, hwk, hd, hs]) | (refine DT_cond rfl (fun h => ?_) (fun h => ?_) <;> (try simp only [nrm] at h) <;> (try exact Bool.noConfusion h)) | (with_reducible refine GStop_split ?_ ?_ <;> intro h <;> have h0 := h <;> (try simp only [nrm] at h) <;> (try exact Bool.noConfusion h) <;> have h2 := h <;> (try simp at h2) <;> (replace hs := And.intro h0 (And.intro h (And.intro h2 hs))) <;> simp -dsimp [h0, h, h2, hx, hkl, hwk, hd, hs]) | (with_reducible refine imp_At (fun h => ?_); (try simp only [List.map_eq_nil_iff] at h); (try subst h); try simp -dsimp [hx, hkl, hwk, hd, hs]) | with_reducible refine And.intro ?_ ?_
      all_goals try simp -dsimp [hx, hkl, hwk, hd, hs]
      all_goals try clear hs
      exact At.round ⟨(k, M2), by simp only; omega, hM2, hv⟩ (by simp) (Weak.of_drop [0,1,2,6,7] 8 (by simp) (by simp) (by simp))
def lettersP (n : Notes) (s : List Int) (m : Int) : List Int := (nums n.reg).map fun d => (byF n s [] m d n.notes.length).letter
set_option maxHeartbeats 1000000 in
theorem lettersP_c (n : Notes) (s : List Int) (m : Int) (hl : n.notes.length < 1000) (hr : n.reg.length < 1000) (hsl : s.length < 1000) (objs : List DObj) : DCall Tryd.prog G 55 [.one (.im (fileI n)), isv s, iv m] objs (fun rr objs' => rr = isv (lettersP n s m) ∧ objs' = objs) := by
  refine DCall.frame ?_ (by simp) (by simp) objs
  refine DCall_intro Tryd.func55 rfl Tryd.ntmps55 (by simp) rfl ?_
  try simp only [isv, iv]
  have c1 := force_c (G := G) n s [] m
  simp only [frcObjs, frcCaps, fileI, iv, isv, bv, rI, List.map_cons, List.map_nil, encMB] at c1 ⊢
  have hs : True := trivial
  repeat' first | (with_reducible first | refine q01 ?_ | refine q02 ?_ | refine q03 ?_ | refine q04 ?_ | refine q05 ?_ | refine q06 ?_ | refine q07 (by decide) ?_ | refine q08 ?_ | refine q09 ?_ | refine q10 ?_ | refine q11 ?_ | refine q12 ?_ | refine q13 ?_ | refine q14 ?_ | refine q15 ?_ | refine q16 ?_ | refine q17 ?_ | refine And.intro (by omega) ?_) | (with_reducible refine At.fn_ret (by simp -dsimp [hs]; exact rfl) ?_) | (with_reducible refine At.fn_end (by simp -dsimp [hs]; exact rfl) ?_) | (refine CallE.embed [] (c1) ?_ ?_ ?_ ?_ ?_ ?_; (focus (simp [emb]; done)); (focus (simp; done)); (focus (simp; done)); (focus (simp; done)); (focus (refine emb_all ?_; simp [emb, embAll]; done)); try simp -dsimp [mergeO, emb, hs]) | (with_reducible refine DT_regionE [0, 1, 2, 6, 7, 8, 10, 18, 19, 20, 21] ?_; simp -dsimp [hs]) | (refine DT_cond rfl (fun h => ?_) (fun h => ?_) <;> (try simp only [nrm] at h) <;> (try exact Bool.noConfusion h)) | (with_reducible refine GStop_split ?_ ?_ <;> intro h <;> have h0 := h <;> (try simp only [nrm] at h) <;> (try exact Bool.noConfusion h) <;> have h2 := h <;> (try simp at h2) <;> (replace hs := And.intro h0 (And.intro h (And.intro h2 hs))) <;> simp -dsimp [h0, h, h2, hs]) | (with_reducible refine imp_At (fun h => ?_); (try simp only [List.map_eq_nil_iff] at h); (try subst h); try simp -dsimp [hs]) | with_reducible refine And.intro ?_ ?_
  all_goals try simp -dsimp [hs]
  all_goals try clear hs
  have hrl := numsTo_length n.reg n.reg.length
  rw [show numsTo n.reg n.reg.length = nums n.reg from rfl] at hrl
  have hE : lettersP n s m = (nums n.reg).map fun d => (byF n s [] m d n.notes.length).letter := rfl
  generalize hP : (fun d => (byF n s [] m d n.notes.length).letter) = P at *
  generalize hns : nums n.reg = ns at *
  refine DT_loop (ι := { p : Nat × Nat × Bool × List (Int × Bool) // p.1 ≤ ns.length ∧ ConsM n s [] m p.2.2.2 }) (fun p => ⟨34, [(0, .one (.im (.ip [.sl (n.reg.map encIssue), .sl (n.notes.map encNote), .sl (ns.map encI), .sl ((isort (openL n.notes)).map encI)]))), (7, .one (.fn (.func 98) [.ptr 6 0, .ptr 1 0, .ptr 2 0, .ptr 3 0, .ptr 4 0, .ptr 7 0])), (8, .one (.vec 8 p.1.2.1 0 p.1.1)), (18, isv ns), (19, iv (ns.length : Int)), (20, iv (p.1.1 : Int))], [.vec 1 [] 0 true] ++ [.row [.im (.ip [.sl (n.reg.map encIssue), .sl (n.notes.map encNote), .sl (ns.map encI), .sl ((isort (openL n.notes)).map encI)])], .row [.im (.sl (s.map encI))], .row [.im (.sl [])], .row [.im (rI m)], .map [.int .i64] (encMB p.1.2.2.2), .row [.map 5], .row [.fn (.func 98) [.ptr 6 0, .ptr 1 0, .ptr 2 0, .ptr 3 0, .ptr 4 0, .ptr 7 0]]] ++ [.vec 1 (ims (((ns.take p.1.1).map P).map encI)) p.1.2.1 p.1.2.2.1]⟩) (fun p => ns.length - p.1.1) ⟨(0, 0, true, []), by simp, ConsM.nil _ _ _ _⟩ (Weak.of_keep [0,7,8,18,19,20] (by simp [encMB])) ?_
  rintro ⟨⟨k, g, nl, M⟩, hk, hM⟩
  simp only at hk hM
  simp only [iv, isv]
  have hlk : ((ns.take k).map P).length = k := by simp; omega
  by_cases hlt : k < ns.length
  · have hw : IntKind.i64.wrap ((k : Int) + 1) = ((k + 1 : Nat) : Int) := i64w (by omega) (by omega)
    have hst : (ns.take (k + 1)).map P = (ns.take k).map P ++ [P ns[k]] := by rw [List.take_succ_eq_append_getElem hlt, List.map_append, List.map_singleton]
    generalize hx : ns[k] = x at *
    have c2 := by_c (G := G) n s [] m x hl hsl (by simp) M hM
    have hPx : (byF n s [] m x n.notes.length).letter = P x := by rw [← hP]
    simp only [frcObjs, frcCaps, fileI, iv, bv, rI, List.map_cons, List.map_nil, hns] at c2
    generalize (ns.take k).map P = L at *
    subst hlk
    have hs : True := trivial
    repeat' first | (with_reducible first | refine q01 ?_ | refine q02 ?_ | refine q03 ?_ | refine q04 ?_ | refine q05 ?_ | refine q06 ?_ | refine q07 (by decide) ?_ | refine q08 ?_ | refine q09 ?_ | refine q10 ?_ | refine q11 ?_ | refine q12 ?_ | refine q13 ?_ | refine q14 ?_ | refine q15 ?_ | refine q16 ?_ | refine q17 ?_ | refine And.intro (by omega) ?_) | (with_reducible refine At.fn_ret (by simp -dsimp [hx, hlt, hw, hPx, hs]; exact rfl) ?_) | (with_reducible refine At.fn_end (by simp -dsimp [hx, hlt, hw, hPx, hs]; exact rfl) ?_) | (refine CallE.embed_ex [1,2,3,4,5,6,7] (c2) ?_ ?_ ?_ ?_ ?_ ?_; (focus (simp [emb]; done)); (focus (simp; done)); (focus (simp; done)); (focus (simp; done)); (focus (refine emb_all ?_; simp [emb, embAll]; done)); intro mm hmm; try simp -dsimp [mergeO, emb, hx, hlt, hw, hPx, hs]) | (with_reducible refine DT_regionE [0, 1, 2, 6, 7, 8, 10, 18, 19, 20, 21] ?_; simp -dsimp [hx, hlt, hw, hPx, hs]) | (refine DT_cond rfl (fun h => ?_) (fun h => ?_) <;> (try simp only [nrm] at h) <;> (try exact Bool.noConfusion h)) | (with_reducible refine GStop_split ?_ ?_ <;> intro h <;> have h0 := h <;> (try simp only [nrm] at h) <;> (try exact Bool.noConfusion h) <;> have h2 := h <;> (try simp at h2) <;> (replace hs := And.intro h0 (And.intro h (And.intro h2 hs))) <;> simp -dsimp [h0, h, h2, hx, hlt, hw, hPx, hs]) | (with_reducible refine imp_At (fun h => ?_); (try simp only [List.map_eq_nil_iff] at h); (try subst h); try simp -dsimp [hx, hlt, hw, hPx, hs]) | with_reducible refine And.intro ?_ ?_
    all_goals try simp -dsimp [hx, hlt, hw, hPx, hs]
    all_goals try clear hs
    all_goals exact At.round ⟨(L.length + 1, g + 1, false, mm), by simp only; omega, hmm⟩ (by simp; omega) (Weak.of_drop [0,7,8,18,19,20] 9 (by simp) (by simp) (by simp [hst, hPx]))
  · obtain rfl : k = ns.length := by omega
    rw [List.take_length] at hlk ⊢
    have hs : True := trivial
    repeat' first | (with_reducible first | refine q01 ?_ | refine q02 ?_ | refine q03 ?_ | refine q04 ?_ | refine q05 ?_ | refine q06 ?_ | refine q07 (by decide) ?_ | refine q08 ?_ | refine q09 ?_ | refine q10 ?_ | refine q11 ?_ | refine q12 ?_ | refine q13 ?_ | refine q14 ?_ | refine q15 ?_ | refine q16 ?_ | refine q17 ?_ | refine And.intro (by omega) ?_) | (with_reducible refine At.fn_ret (by simp -dsimp [hlt, hs]; exact rfl) ?_) | (with_reducible refine At.fn_end (by simp -dsimp [hlt, hs]; exact rfl) ?_) | (with_reducible refine DT_regionE [0, 1, 2, 6, 7, 8, 10, 18, 19, 20, 21] ?_; simp -dsimp [hlt, hs]) | (refine DT_cond rfl (fun h => ?_) (fun h => ?_) <;> (try simp only [nrm] at h) <;> (try exact Bool.noConfusion h)) | (with_reducible refine GStop_split ?_ ?_ <;> intro h <;> have h0 := h <;> (try simp only [nrm] at h) <;> (try exact Bool.noConfusion h) <;> have h2 := h <;> (try simp at h2) <;> (replace hs := And.intro h0 (And.intro h (And.intro h2 hs))) <;> simp -dsimp [h0, h, h2, hlt, hs]) | (with_reducible refine imp_At (fun h => ?_); (try simp only [List.map_eq_nil_iff] at h); (try subst h); try simp -dsimp [hlt, hs]) | with_reducible refine And.intro ?_ ?_
    all_goals try simp -dsimp [hlt, hs]
    all_goals try clear hs
    simp [hE]
theorem nForce_c (n : Notes) (s : List Int) (m : Int) (hG : sheetG G) (hN : noteG G) (hS : SortOk G) (hs : NSm n) (hsl : s.length < 1000) (objs : List DObj) : DCall Tryd.prog G 18 [notesv n, isv s, iv m] objs (fun rr objs' => rr = .tup [isv (if askedE n s m = 0 then inT n.notes (frcL s [] m n.notes) n.notes.length else []), iv (askedE n s m)] ∧ objs' = objs) := by
  refine DCall.frame ?_ (by simp) (by simp) objs
  refine DCall_intro Tryd.func18 rfl Tryd.ntmps18 (by simp) rfl ?_
  try simp only [notesv, isv, iv]
  have c1 := asked_c n s m hG hN hS hs hsl
  by_cases h0 : askedE n s m = 0
  · rw [h0, show askedR n s m = .one (.im (fileI n)) by unfold askedR; rw [if_pos h0]] at c1
    have c2 := force_c (G := G) n s [] m
    simp only [frcObjs, frcCaps, fileI, iv, isv, bv, rI, List.map_cons, List.map_nil, encMB] at c1 c2 ⊢
    have hs : True := trivial
    repeat' first | (with_reducible first | refine q01 ?_ | refine q02 ?_ | refine q03 ?_ | refine q04 ?_ | refine q05 ?_ | refine q06 ?_ | refine q07 (by decide) ?_ | refine q08 ?_ | refine q09 ?_ | refine q10 ?_ | refine q11 ?_ | refine q12 ?_ | refine q13 ?_ | refine q14 ?_ | refine q15 ?_ | refine q16 ?_ | refine q17 ?_ | refine And.intro (by omega) ?_) | (with_reducible refine At.fn_ret (by simp -dsimp [hs]; exact rfl) ?_) | (with_reducible refine At.fn_end (by simp -dsimp [hs]; exact rfl) ?_) | (refine CallE.pure (c1) ?_; try simp -dsimp [hs]) | (refine CallE.embed [] (c2) ?_ ?_ ?_ ?_ ?_ ?_; (focus (simp [emb]; done)); (focus (simp; done)); (focus (simp; done)); (focus (simp; done)); (focus (refine emb_all ?_; simp [emb, embAll]; done)); try simp -dsimp [mergeO, emb, hs]) | (with_reducible refine DT_regionE [0, 1, 2, 3, 6, 7, 8, 9, 10, 11, 12, 21, 29, 30, 31, 35] ?_; simp -dsimp [hs]) | (refine DT_cond rfl (fun h => ?_) (fun h => ?_) <;> (try simp only [nrm] at h) <;> (try exact Bool.noConfusion h)) | (with_reducible refine GStop_split ?_ ?_ <;> intro h <;> have h0 := h <;> (try simp only [nrm] at h) <;> (try exact Bool.noConfusion h) <;> have h2 := h <;> (try simp at h2) <;> (replace hs := And.intro h0 (And.intro h (And.intro h2 hs))) <;> simp -dsimp [h0, h, h2, hs]) | (with_reducible refine imp_At (fun h => ?_); (try simp only [List.map_eq_nil_iff] at h); (try subst h); try simp -dsimp [hs]) | with_reducible refine And.intro ?_ ?_
    all_goals try simp -dsimp [hs]
    all_goals try clear hs
    have hl12 := (notes_ok (asked_ok h0).1).2.1
    rw [if_pos h0]
    have hFl := frcL_len s [] m n.notes
    refine DT_loop (ι := { p : Nat × Nat × Bool × List (Int × Bool) // p.1 ≤ n.notes.length ∧ ConsM n s [] m p.2.2.2 }) (fun p => ⟨47, [(3, .one (.ptr 0 0)), (10, .one (.fn (.func 98) [.ptr 7 0, .ptr 2 0, .ptr 3 0, .ptr 4 0, .ptr 5 0, .ptr 8 0])), (11, .one (.vec 9 p.1.2.1 0 (inT n.notes (frcL s [] m n.notes) p.1.1).length)), (29, iv (n.notes.length : Int)), (30, iv (p.1.1 : Int))], [.row ((encNotes n).map .im), .vec 1 [] 0 true] ++ [.row [.im (.ip [.sl (n.reg.map encIssue), .sl (n.notes.map encNote), .sl ((nums n.reg).map encI), .sl ((isort (openL n.notes)).map encI)])], .row [.im (.sl (s.map encI))], .row [.im (.sl [])], .row [.im (rI m)], .map [.int .i64] (encMB p.1.2.2.2), .row [.map 6], .row [.fn (.func 98) [.ptr 7 0, .ptr 2 0, .ptr 3 0, .ptr 4 0, .ptr 5 0, .ptr 8 0]]] ++ [.vec 1 (ims ((inT n.notes (frcL s [] m n.notes) p.1.1).map encI)) p.1.2.1 p.1.2.2.1]⟩) (fun p => n.notes.length - p.1.1) ⟨(0, 0, true, []), by simp, ConsM.nil _ _ _ _⟩ (Weak.of_keep [3,10,11,29,30] (by simp [encMB, inT_zero])) ?_
    rintro ⟨⟨k, g, nl, M⟩, hk, hM⟩
    simp only at hk hM
    simp only [iv]
    have hlk := inT_len n.notes (frcL s [] m n.notes) k
    by_cases hlt : k < n.notes.length
    · have hw : IntKind.i64.wrap ((k : Int) + 1) = ((k + 1 : Nat) : Int) := i64w (by omega) (by omega)
      have hf : k < (frcL s [] m n.notes).length := by omega
      have hst := inT_succ hlt hf
      rw [show (frcL s [] m n.notes)[k] = frcAt n s [] m k by rw [frcAt, List.getElem?_eq_getElem hf]; rfl] at hst
      generalize hx : n.notes[k] = x at *
      have c3 := is_c (G := G) n s [] m (by omega) hsl (by simp) n.notes.length k (by omega) hlt M hM
      simp only [frcObjs, frcCaps, fileI, iv, bv, rI, List.map_cons, List.map_nil] at c3
      generalize inT n.notes (frcL s [] m n.notes) k = L at *
      have hs : True := trivial
      repeat' first | (with_reducible first | refine q01 ?_ | refine q02 ?_ | refine q03 ?_ | refine q04 ?_ | refine q05 ?_ | refine q06 ?_ | refine q07 (by decide) ?_ | refine q08 ?_ | refine q09 ?_ | refine q10 ?_ | refine q11 ?_ | refine q12 ?_ | refine q13 ?_ | refine q14 ?_ | refine q15 ?_ | refine q16 ?_ | refine q17 ?_ | refine And.intro (by omega) ?_) | (with_reducible refine At.fn_ret (by simp -dsimp [hx, hlt, hw, hs]; exact rfl) ?_) | (with_reducible refine At.fn_end (by simp -dsimp [hx, hlt, hw, hs]; exact rfl) ?_) | (refine CallE.embed_ex [2,3,4,5,6,7,8] (c3) ?_ ?_ ?_ ?_ ?_ ?_; (focus (simp [emb]; done)); (focus (simp; done)); (focus (simp; done)); (focus (simp; done)); (focus (refine emb_all ?_; simp [emb, embAll]; done)); intro mm hmm; try simp -dsimp [mergeO, emb, hx, hlt, hw, hs]) | (with_reducible refine DT_regionE [0, 1, 2, 3, 6, 7, 8, 9, 10, 11, 12, 21, 29, 30, 31, 35] ?_; simp -dsimp [hx, hlt, hw, hs]) | (refine DT_cond rfl (fun h => ?_) (fun h => ?_) <;> (try simp only [nrm] at h) <;> (try exact Bool.noConfusion h)) | (with_reducible refine GStop_split ?_ ?_ <;> intro h <;> have h0 := h <;> (try simp only [nrm] at h) <;> (try exact Bool.noConfusion h) <;> have h2 := h <;> (try simp at h2) <;> (replace hs := And.intro h0 (And.intro h (And.intro h2 hs))) <;> simp -dsimp [h0, h, h2, hx, hlt, hw, hs]) | (with_reducible refine imp_At (fun h => ?_); (try simp only [List.map_eq_nil_iff] at h); (try subst h); try simp -dsimp [hx, hlt, hw, hs]) | with_reducible refine And.intro ?_ ?_
      all_goals try simp -dsimp [hx, hlt, hw, hs]
      all_goals try clear hs
      · have e := hst.trans (by rw [if_pos (by assumption)])
        exact At.round ⟨(k + 1, g + 1, false, mm), by simp only; omega, hmm⟩ (by simp; omega) (Weak.of_drop [3,10,11,29,30] 10 (by simp) (by simp) (by simp [e]))
      · have hff : frcAt n s [] m k = false := by assumption
        have e := hst.trans (by rw [hff, if_neg Bool.false_ne_true, List.append_nil])
        exact At.round ⟨(k + 1, g, nl, mm), by simp only; omega, hmm⟩ (by simp; omega) (Weak.of_drop [3,10,11,29,30] 10 (by simp) (by simp) (by simp [e]))
    · obtain rfl : k = n.notes.length := by omega
      have hs : True := trivial
      repeat' first | (with_reducible first | refine q01 ?_ | refine q02 ?_ | refine q03 ?_ | refine q04 ?_ | refine q05 ?_ | refine q06 ?_ | refine q07 (by decide) ?_ | refine q08 ?_ | refine q09 ?_ | refine q10 ?_ | refine q11 ?_ | refine q12 ?_ | refine q13 ?_ | refine q14 ?_ | refine q15 ?_ | refine q16 ?_ | refine q17 ?_ | refine And.intro (by omega) ?_) | (with_reducible refine At.fn_ret (by simp -dsimp [hlt, hs]; exact rfl) ?_) | (with_reducible refine At.fn_end (by simp -dsimp [hlt, hs]; exact rfl) ?_) | (with_reducible refine DT_regionE [0, 1, 2, 3, 6, 7, 8, 9, 10, 11, 12, 21, 29, 30, 31, 35] ?_; simp -dsimp [hlt, hs]) | (refine DT_cond rfl (fun h => ?_) (fun h => ?_) <;> (try simp only [nrm] at h) <;> (try exact Bool.noConfusion h)) | (with_reducible refine GStop_split ?_ ?_ <;> intro h <;> have h0 := h <;> (try simp only [nrm] at h) <;> (try exact Bool.noConfusion h) <;> have h2 := h <;> (try simp at h2) <;> (replace hs := And.intro h0 (And.intro h (And.intro h2 hs))) <;> simp -dsimp [h0, h, h2, hlt, hs]) | (with_reducible refine imp_At (fun h => ?_); (try simp only [List.map_eq_nil_iff] at h); (try subst h); try simp -dsimp [hlt, hs]) | with_reducible refine And.intro ?_ ?_
      all_goals try simp -dsimp [hlt, hs]
      all_goals try clear hs
      all_goals simp [*]
  · rw [show askedR n s m = .one (.im (.raw (.pointer none))) by unfold askedR; rw [if_neg h0]] at c1
    have hs : True := trivial
    repeat' first | (with_reducible first | refine q01 ?_ | refine q02 ?_ | refine q03 ?_ | refine q04 ?_ | refine q05 ?_ | refine q06 ?_ | refine q07 (by decide) ?_ | refine q08 ?_ | refine q09 ?_ | refine q10 ?_ | refine q11 ?_ | refine q12 ?_ | refine q13 ?_ | refine q14 ?_ | refine q15 ?_ | refine q16 ?_ | refine q17 ?_ | refine And.intro (by omega) ?_) | (with_reducible refine At.fn_ret (by simp -dsimp [h0, hs]; exact rfl) ?_) | (with_reducible refine At.fn_end (by simp -dsimp [h0, hs]; exact rfl) ?_) | (refine CallE.pure (c1) ?_; try simp -dsimp [h0, hs]) | (with_reducible refine DT_regionE [0, 1, 2, 3, 6, 7, 8, 9, 10, 11, 12, 21, 29, 30, 31, 35] ?_; simp -dsimp [h0, hs]) | (refine DT_cond rfl (fun h => ?_) (fun h => ?_) <;> (try simp only [nrm] at h) <;> (try exact Bool.noConfusion h)) | (with_reducible refine GStop_split ?_ ?_ <;> intro h <;> have h0 := h <;> (try simp only [nrm] at h) <;> (try exact Bool.noConfusion h) <;> have h2 := h <;> (try simp at h2) <;> (replace hs := And.intro h0 (And.intro h (And.intro h2 hs))) <;> simp -dsimp [h0, h, h2, h0, hs]) | (with_reducible refine imp_At (fun h => ?_); (try simp only [List.map_eq_nil_iff] at h); (try subst h); try simp -dsimp [h0, hs]) | with_reducible refine And.intro ?_ ?_
    all_goals try simp -dsimp [h0, hs]
    all_goals try clear hs
    all_goals simp [h0]
theorem nLetters_c (n : Notes) (s : List Int) (m : Int) (hG : sheetG G) (hN : noteG G) (hS : SortOk G) (hs : NSm n) (hsl : s.length < 1000) (objs : List DObj) : DCall Tryd.prog G 20 [notesv n, isv s, iv m] objs (fun rr objs' => rr = .tup [isv (if askedE n s m = 0 then lettersP n s m else []), iv (askedE n s m)] ∧ objs' = objs) := by
  refine DCall.frame ?_ (by simp) (by simp) objs
  refine DCall_intro Tryd.func20 rfl Tryd.ntmps20 (by simp) rfl ?_
  try simp only [notesv, isv, iv]
  have c1 := asked_c n s m hG hN hS hs hsl
  by_cases h0 : askedE n s m = 0
  · rw [h0, show askedR n s m = .one (.im (fileI n)) by unfold askedR; rw [if_pos h0]] at c1
    have hl12 := hs.2.1
    have hr80 := hs.1.1
    have c2 := lettersP_c (G := G) n s m (by omega) (by omega) hsl
    simp only [fileI] at c1 c2
    rw [if_pos h0]
    have hs : True := trivial
    repeat' first | (with_reducible first | refine q01 ?_ | refine q02 ?_ | refine q03 ?_ | refine q04 ?_ | refine q05 ?_ | refine q06 ?_ | refine q07 (by decide) ?_ | refine q08 ?_ | refine q09 ?_ | refine q10 ?_ | refine q11 ?_ | refine q12 ?_ | refine q13 ?_ | refine q14 ?_ | refine q15 ?_ | refine q16 ?_ | refine q17 ?_ | refine And.intro (by omega) ?_) | (with_reducible refine At.fn_ret (by simp -dsimp [hs]; exact rfl) ?_) | (with_reducible refine At.fn_end (by simp -dsimp [hs]; exact rfl) ?_) | (refine CallE.pure (c1) ?_; try simp -dsimp [hs]) | (refine CallE.pure (c2) ?_; try simp -dsimp [hs]) | (with_reducible refine DT_regionE [0, 1, 2, 3, 6, 7, 8, 9, 18] ?_; simp -dsimp [hs]) | (refine DT_cond rfl (fun h => ?_) (fun h => ?_) <;> (try simp only [nrm] at h) <;> (try exact Bool.noConfusion h)) | (with_reducible refine GStop_split ?_ ?_ <;> intro h <;> have h0 := h <;> (try simp only [nrm] at h) <;> (try exact Bool.noConfusion h) <;> have h2 := h <;> (try simp at h2) <;> (replace hs := And.intro h0 (And.intro h (And.intro h2 hs))) <;> simp -dsimp [h0, h, h2, hs]) | (with_reducible refine imp_At (fun h => ?_); (try simp only [List.map_eq_nil_iff] at h); (try subst h); try simp -dsimp [hs]) | with_reducible refine And.intro ?_ ?_
    all_goals try simp -dsimp [hs]
    all_goals try clear hs
    all_goals simp [h0]
  · rw [show askedR n s m = .one (.im (.raw (.pointer none))) by unfold askedR; rw [if_neg h0]] at c1
    have hs : True := trivial
    repeat' first | (with_reducible first | refine q01 ?_ | refine q02 ?_ | refine q03 ?_ | refine q04 ?_ | refine q05 ?_ | refine q06 ?_ | refine q07 (by decide) ?_ | refine q08 ?_ | refine q09 ?_ | refine q10 ?_ | refine q11 ?_ | refine q12 ?_ | refine q13 ?_ | refine q14 ?_ | refine q15 ?_ | refine q16 ?_ | refine q17 ?_ | refine And.intro (by omega) ?_) | (with_reducible refine At.fn_ret (by simp -dsimp [h0, hs]; exact rfl) ?_) | (with_reducible refine At.fn_end (by simp -dsimp [h0, hs]; exact rfl) ?_) | (refine CallE.pure (c1) ?_; try simp -dsimp [h0, hs]) | (with_reducible refine DT_regionE [0, 1, 2, 3, 6, 7, 8, 9, 18] ?_; simp -dsimp [h0, hs]) | (refine DT_cond rfl (fun h => ?_) (fun h => ?_) <;> (try simp only [nrm] at h) <;> (try exact Bool.noConfusion h)) | (with_reducible refine GStop_split ?_ ?_ <;> intro h <;> have h0 := h <;> (try simp only [nrm] at h) <;> (try exact Bool.noConfusion h) <;> have h2 := h <;> (try simp at h2) <;> (replace hs := And.intro h0 (And.intro h (And.intro h2 hs))) <;> simp -dsimp [h0, h, h2, h0, hs]) | (with_reducible refine imp_At (fun h => ?_); (try simp only [List.map_eq_nil_iff] at h); (try subst h); try simp -dsimp [h0, hs]) | with_reducible refine And.intro ?_ ?_
    all_goals try simp -dsimp [h0, hs]
    all_goals try clear hs
    all_goals simp [h0]
theorem nBy_c (n : Notes) (s : List Int) (d m : Int) (hG : sheetG G) (hN : noteG G) (hS : SortOk G) (hs : NSm n) (hsl : s.length < 1000) (objs : List DObj) : DCall Tryd.prog G 22 [notesv n, isv s, iv d, iv m] objs (fun rr objs' => rr = .tup [iv (if drawnE n s m d = 0 then (byF n s [] m d n.notes.length).number else 0), iv (drawnE n s m d)] ∧ objs' = objs) := by
  refine DCall.frame ?_ (by simp) (by simp) objs
  refine DCall_intro Tryd.func22 rfl Tryd.ntmps22 (by simp) rfl ?_
  try simp only [notesv, isv, iv, iv]
  have c1 := drawn_c n s m d hG hN hS hs hsl
  by_cases h0 : drawnE n s m d = 0
  · rw [h0, show drawnR n s m d = .one (.im (fileI n)) by unfold drawnR; rw [if_pos h0]] at c1
    have c2 := force_c (G := G) n s [] m
    have hl12 := hs.2.1
    have c3 := by_c (G := G) n s [] m d (by omega) hsl (by simp) [] (ConsM.nil _ _ _ _)
    simp only [frcObjs, frcCaps, fileI, iv, isv, bv, rI, List.map_cons, List.map_nil, encMB] at c1 c2 c3 ⊢
    rw [if_pos h0]
    have hs : True := trivial
    repeat' first | (with_reducible first | refine q01 ?_ | refine q02 ?_ | refine q03 ?_ | refine q04 ?_ | refine q05 ?_ | refine q06 ?_ | refine q07 (by decide) ?_ | refine q08 ?_ | refine q09 ?_ | refine q10 ?_ | refine q11 ?_ | refine q12 ?_ | refine q13 ?_ | refine q14 ?_ | refine q15 ?_ | refine q16 ?_ | refine q17 ?_ | refine And.intro (by omega) ?_) | (with_reducible refine At.fn_ret (by simp -dsimp [hs]; exact rfl) ?_) | (with_reducible refine At.fn_end (by simp -dsimp [hs]; exact rfl) ?_) | (refine CallE.pure (c1) ?_; try simp -dsimp [hs]) | (refine CallE.embed [] (c2) ?_ ?_ ?_ ?_ ?_ ?_; (focus (simp [emb]; done)); (focus (simp; done)); (focus (simp; done)); (focus (simp; done)); (focus (refine emb_all ?_; simp [emb, embAll]; done)); try simp -dsimp [mergeO, emb, hs]) | (refine CallE.embed_ex [1,2,3,4,5,6,7] (c3) ?_ ?_ ?_ ?_ ?_ ?_; (focus (simp [emb]; done)); (focus (simp; done)); (focus (simp; done)); (focus (simp; done)); (focus (refine emb_all ?_; simp [emb, embAll]; done)); intro mm hmm; try simp -dsimp [mergeO, emb, hs]) | (with_reducible refine DT_regionE [0, 1, 2, 3, 4, 8, 9, 10, 11, 21] ?_; simp -dsimp [hs]) | (refine DT_cond rfl (fun h => ?_) (fun h => ?_) <;> (try simp only [nrm] at h) <;> (try exact Bool.noConfusion h)) | (with_reducible refine GStop_split ?_ ?_ <;> intro h <;> have h0 := h <;> (try simp only [nrm] at h) <;> (try exact Bool.noConfusion h) <;> have h2 := h <;> (try simp at h2) <;> (replace hs := And.intro h0 (And.intro h (And.intro h2 hs))) <;> simp -dsimp [h0, h, h2, hs]) | (with_reducible refine imp_At (fun h => ?_); (try simp only [List.map_eq_nil_iff] at h); (try subst h); try simp -dsimp [hs]) | with_reducible refine And.intro ?_ ?_
    all_goals try simp -dsimp [hs]
    all_goals try clear hs
    all_goals simp [h0]
  · rw [show drawnR n s m d = .one (.im (.raw (.pointer none))) by unfold drawnR; rw [if_neg h0]] at c1
    have hs : True := trivial
    repeat' first | (with_reducible first | refine q01 ?_ | refine q02 ?_ | refine q03 ?_ | refine q04 ?_ | refine q05 ?_ | refine q06 ?_ | refine q07 (by decide) ?_ | refine q08 ?_ | refine q09 ?_ | refine q10 ?_ | refine q11 ?_ | refine q12 ?_ | refine q13 ?_ | refine q14 ?_ | refine q15 ?_ | refine q16 ?_ | refine q17 ?_ | refine And.intro (by omega) ?_) | (with_reducible refine At.fn_ret (by simp -dsimp [h0, hs]; exact rfl) ?_) | (with_reducible refine At.fn_end (by simp -dsimp [h0, hs]; exact rfl) ?_) | (refine CallE.pure (c1) ?_; try simp -dsimp [h0, hs]) | (with_reducible refine DT_regionE [0, 1, 2, 3, 4, 8, 9, 10, 11, 21] ?_; simp -dsimp [h0, hs]) | (refine DT_cond rfl (fun h => ?_) (fun h => ?_) <;> (try simp only [nrm] at h) <;> (try exact Bool.noConfusion h)) | (with_reducible refine GStop_split ?_ ?_ <;> intro h <;> have h0 := h <;> (try simp only [nrm] at h) <;> (try exact Bool.noConfusion h) <;> have h2 := h <;> (try simp at h2) <;> (replace hs := And.intro h0 (And.intro h (And.intro h2 hs))) <;> simp -dsimp [h0, h, h2, h0, hs]) | (with_reducible refine imp_At (fun h => ?_); (try simp only [List.map_eq_nil_iff] at h); (try subst h); try simp -dsimp [h0, hs]) | with_reducible refine And.intro ?_ ?_
    all_goals try simp -dsimp [h0, hs]
    all_goals try clear hs
    all_goals simp [h0]
end Go.Proofs
namespace Go.Proofs
open Go Go.Ab
def openI (l : List Note) : List Nat := ((List.range l.length).filter (opAt l)).mergeSort fun a b => decide (numAt l a ≤ numAt l b)
theorem openI_to (l : List Note) : OpenTo l l.length (openI l) := by
  refine ⟨List.mergeSort_perm _ _, ?_⟩
  have := List.pairwise_mergeSort (le := fun a b : Nat => decide (numAt l a ≤ numAt l b)) (fun a b c h1 h2 => by simp at *; omega) (fun a b => by simp; omega) ((List.range l.length).filter (opAt l))
  exact this.imp fun h => by simpa using h
theorem openI_eq {n : Notes} (hok : allOk n) {S : List Nat} (h : OpenTo n.notes n.notes.length S) : S = openI n.notes := by
  have h2 := openI_to n.notes
  refine (h.perm.trans h2.perm.symm).eq_of_pairwise (le := fun a b => numAt n.notes a ≤ numAt n.notes b) (fun a b ha hb h3 h4 => ?_) h.srt h2.srt
  have la := (h.lt a ha).1
  have lb := (h2.lt b hb).1
  have e : numAt n.notes a = numAt n.notes b := by omega
  simp only [numAt, List.getElem?_eq_getElem la, List.getElem?_eq_getElem lb, Option.map_some, Option.getD_some] at e
  have hnd := nums_nodup hok
  have la' : a < (n.notes.map (·.number)).length := by simpa using la
  have lb' : b < (n.notes.map (·.number)).length := by simpa using lb
  have e' : (n.notes.map (·.number))[a] = (n.notes.map (·.number))[b] := by simpa using e
  exact (List.getElem_inj hnd).1 e'
theorem openI_nums {n : Notes} : (openI n.notes).map (numAt n.notes) = isort (openL n.notes) := (openI_to n.notes).nums
theorem openI_lt {l : List Note} {i : Nat} (h : i ∈ openI l) : i < l.length := ((openI_to l).lt i h).1
end Go.Proofs
