/- Part 18 of the proof whose last text closes the card: laws and walks that hold without conditions beyond those that each theorem names. -/
import Derived.Test.YtmonmfpdckdoiaaGreatDoorA14
import Derived.Test.YtmonmfpdckdoiaaGreatDoorA16
import Derived.Test.YtmonmfpdckdoiaaGreatDoorA17
set_option linter.all false
set_option linter.deprecated false
namespace Go.Proofs
open Go Go.Ab
/-- What matters: one list's places. -/
def rowM (d : Nat → Bool) (M : Nat) : Nat → Nat
  | 0 => M
  | i + 1 => if d i then rowM d M i ||| 2 ^ i else rowM d M i
def matM (d : Nat → Nat → Bool) (m : Nat) : Nat → Nat
  | 0 => 0
  | s + 1 => rowM (d s) (matM d m s) m
theorem rowM_lt {d : Nat → Bool} {M m : Nat} (h : M < 2 ^ m) : ∀ i, i ≤ m → rowM d M i < 2 ^ m
  | 0, _ => h
  | i + 1, hi => by
    have ih := rowM_lt (d := d) h i (by omega)
    unfold rowM
    split
    · exact Nat.or_lt_two_pow ih (Nat.pow_lt_pow_right (by omega) (by omega))
    · exact ih
theorem matM_lt (d : Nat → Nat → Bool) (m : Nat) : ∀ s, matM d m s < 2 ^ m
  | 0 => Nat.two_pow_pos m
  | s + 1 => rowM_lt (matM_lt d m s) m (Nat.le_refl _)
theorem rowM_bit (d : Nat → Bool) (M b : Nat) : ∀ i, (rowM d M i).testBit b = (M.testBit b || (decide (b < i) && d b))
  | 0 => by simp [rowM]
  | i + 1 => by
    have ih := rowM_bit d M b i
    unfold rowM
    by_cases e : b = i
    · subst e
      split
      · rename_i h
        rw [Nat.testBit_or, ih, Nat.testBit_two_pow_self]; simp [h]
      · rename_i h
        rw [ih]; simp [h]
    · have h1 : decide (b < i + 1) = decide (b < i) := by
        by_cases h : b < i <;> simp [h] <;> omega
      split
      · rw [Nat.testBit_or, ih, Nat.testBit_two_pow_of_ne (Ne.symm e), h1]; simp
      · rw [ih, h1]
theorem matM_bit (d : Nat → Nat → Bool) (m b : Nat) (hb : b < m) : ∀ s, (matM d m s).testBit b = (List.range s).any fun x => d x b
  | 0 => by simp [matM]
  | s + 1 => by
    unfold matM
    rw [rowM_bit, matM_bit d m b hb s, List.range_succ, List.any_append]
    simp [hb]
theorem xor_at {s i : Nat} (hs : s < 32) (hi : i < 5) : IntKind.i64.wrap ((BitVec.ofInt 64 (s : Int) ^^^ BitVec.ofInt 64 ((2 ^ i : Nat) : Int)).toNat : Int) = ((s ^^^ 2 ^ i : Nat) : Int) := by
  have h2 : 2 ^ i < 2 ^ 5 := Nat.pow_lt_pow_right (by omega) hi
  have h3 : s ^^^ 2 ^ i < 2 ^ 5 := Nat.xor_lt_two_pow hs h2
  rw [BitVec.ofInt_natCast, BitVec.ofInt_natCast, BitVec.toNat_xor, BitVec.toNat_ofNat, BitVec.toNat_ofNat, Nat.mod_eq_of_lt (by omega), Nat.mod_eq_of_lt (by omega)]
  exact i64w (by omega) (by omega)
theorem or_at {s i : Nat} (hs : s < 32) (hi : i < 5) : IntKind.i64.wrap ((BitVec.ofInt 64 (s : Int) ||| BitVec.ofInt 64 ((2 ^ i : Nat) : Int)).toNat : Int) = ((s ||| 2 ^ i : Nat) : Int) := by
  have h2 : 2 ^ i < 2 ^ 5 := Nat.pow_lt_pow_right (by omega) hi
  have h3 : s ||| 2 ^ i < 2 ^ 5 := Nat.or_lt_two_pow hs h2
  rw [BitVec.ofInt_natCast, BitVec.ofInt_natCast, BitVec.toNat_or, BitVec.toNat_ofNat, BitVec.toNat_ofNat, Nat.mod_eq_of_lt (by omega), Nat.mod_eq_of_lt (by omega)]
  exact i64w (by omega) (by omega)
/-- Two lists of a table that differ by one place's turn. -/
def difB (L : List (List Int)) (s i : Nat) : Bool := decide (L[s]? ≠ L[s ^^^ 2 ^ i]?)
theorem xor_all : ∀ s < 32, ∀ i < 5, (s.testBit i = false → s ^^^ 2 ^ i = s + 2 ^ i) ∧ (s ^^^ 2 ^ i).testBit i = !s.testBit i ∧ (s ^^^ 2 ^ i) ^^^ 2 ^ i = s := by decide
/-- The reference's look: from below alone. -/
def matR (L : List (List Int)) (P i : Nat) : Bool := (List.range P).any fun s => !s.testBit i && decide (L[s]? ≠ L[s + 2 ^ i]?)
theorem mat_eq {L : List (List Int)} {m i : Nat} (hm : m ≤ 5) (hi : i < m) : (matM (difB L) m (2 ^ m)).testBit i = matR L (2 ^ m) i := by
  have hP : 2 ^ m ≤ 2 ^ 5 := Nat.pow_le_pow_right (by omega) hm
  have h2 : 2 ^ i < 2 ^ m := Nat.pow_lt_pow_right (by omega) hi
  rw [matM_bit _ _ _ hi, matR, Bool.eq_iff_iff, List.any_eq_true, List.any_eq_true]
  constructor
  · rintro ⟨s, hs, hd⟩
    rw [List.mem_range] at hs
    obtain ⟨h3, h4, h5⟩ := xor_all s (by omega) i (by omega)
    simp only [difB, decide_eq_true_eq] at hd
    cases hb : s.testBit i
    · exact ⟨s, by simpa using hs, by rw [← h3 hb]; simp [hb, hd]⟩
    · have h6 : s ^^^ 2 ^ i < 2 ^ m := Nat.xor_lt_two_pow hs h2
      obtain ⟨h7, _, _⟩ := xor_all (s ^^^ 2 ^ i) (by omega) i (by omega)
      have h8 : (s ^^^ 2 ^ i).testBit i = false := by rw [h4, hb]; rfl
      refine ⟨s ^^^ 2 ^ i, by simpa using h6, ?_⟩
      rw [← h7 h8, h5, h8]
      simp [Ne.symm hd]
  · rintro ⟨s, hs, hd⟩
    rw [List.mem_range] at hs
    obtain ⟨h3, _, _⟩ := xor_all s (by omega) i (by omega)
    simp only [Bool.and_eq_true, Bool.not_eq_true', decide_eq_true_eq] at hd
    exact ⟨s, by simpa using hs, by simp only [difB, decide_eq_true_eq]; rw [h3 hd.1]; exact hd.2⟩
end Go.Proofs
namespace Go.Proofs
open Go Go.Ab
set_option linter.unusedSimpArgs false
variable {G : Nat → Option (List IC)}
theorem equal_c (a b : List Int) (ha : a.length < 1000000) (hb : b.length < 1000000) (objs : List DObj) : DCall Tryz.prog G 60 [isv a, isv b] objs (fun rr objs' => rr = bv (decide (a = b)) ∧ objs' = objs) := by
  refine DCall.frame ?_ (by simp) (by simp) objs
  refine DCall_intro Tryz.func60 rfl Tryz.ntmps60 (by simp) rfl ?_
  try simp only [isv, isv]
  by_cases hl : a.length = b.length
  · have hli : (a.length : Int) = b.length := by omega
    have hs : True := trivial
    repeat' first | (with_reducible first | refine q01 ?_ | refine q11 ?_ | refine q12 ?_ | refine q14 ?_) | (with_reducible refine DT_regionE [0, 1, 4, 5, 10, 12, 13, 14, 24] ?_; simp -dsimp [hl, hli, hs]) | (refine DT_cond rfl (fun h => ?_) (fun h => ?_) <;> (try simp only [nrm] at h) <;> (try exact Bool.noConfusion h))
    all_goals try simp -dsimp [hl, hli, hs]
    all_goals try clear hs
    refine DT_loop (ι := { k : Nat // k ≤ b.length ∧ a.take k = b.take k }) (fun p => ⟨26, [(0, isv a), (1, isv b), (12, iv (b.length : Int)), (13, iv (p.1 : Int))], []⟩) (fun p => b.length - p.1) ⟨0, by simp⟩ (Weak.of_keep [0,1,12,13] (by simp [hl])) ?_
    rintro ⟨k, hk, he⟩
    simp only [iv, isv]
    by_cases hlt : k < b.length
    · have hw : IntKind.i64.wrap ((k : Int) + 1) = ((k + 1 : Nat) : Int) := i64w (by omega) (by omega)
      have hka : k < a.length := by omega
      have hta : a.take (k + 1) = a.take k ++ [a[k]] := List.take_succ_eq_append_getElem hka
      have htb : b.take (k + 1) = b.take k ++ [b[k]] := List.take_succ_eq_append_getElem hlt
      generalize hx : a[k] = x at *
      generalize hy : b[k] = y at *
      by_cases hxy : x = y
      · have hs : True := trivial
        repeat' first | (with_reducible first | refine q01 ?_ | refine q04 ?_ | refine q11 ?_ | refine q12 ?_ | refine q14 ?_) | (refine DT_regionM (id := 6) (nt := 26) 9 [0, 1, 4, 5, 10, 12, 13, 14, 24] mixed rfl (by kernel_rfl) ?_; simp -dsimp [hx, hy, hlt, hka, hw, hxy, hs]) | (with_reducible refine DT_regionE [0, 1, 4, 5, 10, 12, 13, 14, 24] ?_; simp -dsimp [hx, hy, hlt, hka, hw, hxy, hs]) | (refine DT_cond rfl (fun h => ?_) (fun h => ?_) <;> (try simp only [nrm] at h) <;> (try exact Bool.noConfusion h))
        all_goals try simp -dsimp [hx, hy, hlt, hka, hw, hxy, hs]
        all_goals try clear hs
        all_goals exact At.round ⟨k + 1, by omega, by rw [hta, htb, he, hxy]⟩ (by simp only; omega) (Weak.of_keep [0,1,12,13] (by simp [hl]))
      · have hne : ¬ a = b := fun e => hxy (by subst e; rw [← hx, ← hy])
        have hs : True := trivial
        repeat' first | (with_reducible first | refine q01 ?_ | refine q02 ?_ | refine q05 ?_ | refine q11 ?_ | refine q12 ?_ | refine q14 ?_ | refine q17 ?_) | (with_reducible refine At.fn_ret (by simp -dsimp [hx, hy, hlt, hka, hxy, hs]; exact rfl) ?_) | (refine DT_regionM (id := 6) (nt := 26) 9 [0, 1, 4, 5, 10, 12, 13, 14, 24] mixed rfl (by kernel_rfl) ?_; simp -dsimp [hx, hy, hlt, hka, hxy, hs]) | (with_reducible refine DT_regionE [0, 1, 4, 5, 10, 12, 13, 14, 24] ?_; simp -dsimp [hx, hy, hlt, hka, hxy, hs]) | (refine DT_cond rfl (fun h => ?_) (fun h => ?_) <;> (try simp only [nrm] at h) <;> (try exact Bool.noConfusion h))
        all_goals try simp -dsimp [hx, hy, hlt, hka, hxy, hs]
        all_goals try clear hs
        all_goals simp [hne]
    · obtain rfl : k = b.length := by omega
      rw [List.take_length, ← hl, List.take_length] at he
      have hs : True := trivial
      repeat' first | (with_reducible first | refine q01 ?_ | refine q03 ?_ | refine q06 ?_ | refine q11 ?_ | refine q16 ?_ | refine q17 ?_) | (with_reducible refine At.fn_ret (by simp -dsimp [hlt, hs]; exact rfl) ?_) | (with_reducible refine DT_regionE [0, 1, 4, 5, 10, 12, 13, 14, 24] ?_; simp -dsimp [hlt, hs]) | (refine DT_cond rfl (fun h => ?_) (fun h => ?_) <;> (try simp only [nrm] at h) <;> (try exact Bool.noConfusion h))
      all_goals try simp -dsimp [hlt, hs]
      all_goals try clear hs
      all_goals simp [he]
  · have hli : ¬ (a.length : Int) = b.length := by omega
    have hne : ¬ a = b := fun e => hl (by rw [e])
    have hs : True := trivial
    repeat' first | (with_reducible first | refine q01 ?_ | refine q02 ?_ | refine q11 ?_ | refine q17 ?_) | (with_reducible refine At.fn_ret (by simp -dsimp [hl, hli, hs]; exact rfl) ?_) | (with_reducible refine DT_regionE [0, 1, 4, 5, 10, 12, 13, 14, 24] ?_; simp -dsimp [hl, hli, hs]) | (refine DT_cond rfl (fun h => ?_) (fun h => ?_) <;> (try simp only [nrm] at h) <;> (try exact Bool.noConfusion h))
    all_goals try simp -dsimp [hl, hli, hs]
    all_goals try clear hs
    all_goals simp [hne]
def letsL (n : Notes) (m : Int) (O : List Int) (k : Nat) : List (List Int) := (trTo O k).map fun t => lettersK n t m
theorem letsL_len (n : Notes) (m : Int) (O : List Int) (k : Nat) : (letsL n m O k).length = k := by simp [letsL, trTo_len]
theorem letsL_succ (n : Notes) (m : Int) (O : List Int) (k : Nat) : letsL n m O (k + 1) = letsL n m O k ++ [lettersK n (selN O k O.length) m] := by simp [letsL, trTo_succ]
theorem letsL_mem {n : Notes} {m : Int} {O : List Int} {k s : Nat} {X : List Int} (h : (letsL n m O k)[s]? = some X) : X.length = (nums n.reg).length := by
  obtain ⟨t, _, rfl⟩ := List.mem_map.1 (List.mem_of_getElem? h)
  exact lettersK_len n t m
/-- The table, of which the first k places are laid. -/
def tabL (n : Notes) (m : Int) (O : List Int) (P k : Nat) : List (List Int) := letsL n m O k ++ List.replicate (P - k) []
theorem tabL_len (n : Notes) (m : Int) (O : List Int) {P k : Nat} (h : k ≤ P) : (tabL n m O P k).length = P := by simp [tabL, letsL_len]; omega
theorem tabL_zero (n : Notes) (m : Int) (O : List Int) (P : Nat) : tabL n m O P 0 = List.replicate P [] := by simp [tabL, letsL, trTo]
theorem tabL_full (n : Notes) (m : Int) (O : List Int) (P : Nat) : tabL n m O P P = letsL n m O P := by simp [tabL]
theorem tabL_set (n : Notes) (m : Int) (O : List Int) {P k : Nat} (h : k < P) : tabL n m O P (k + 1) = (tabL n m O P k).set k (lettersK n (selN O k O.length) m) := by
  unfold tabL
  rw [letsL_succ, List.set_append_right _ _ (by simp [letsL_len]), List.append_assoc]
  congr 1
  rw [show P - k = (P - (k + 1)) + 1 by omega, List.replicate_succ]
  simp [letsL_len]
set_option maxHeartbeats 8000000 in
theorem nMatters_c (n : Notes) (m : Int) (hG : sheetG G) (hN : noteG G) (hS : SortOk G) (hs : NSm n) (objs : List DObj) : DCall Tryz.prog G 24 [notesv n, iv m] objs (fun rr objs' => rr = .tup [isv (if askedE n [] m = 0 then selN (isort (openL n.notes)) (matM (difB (letsL n m (isort (openL n.notes)) (2 ^ (isort (openL n.notes)).length))) (isort (openL n.notes)).length (2 ^ (isort (openL n.notes)).length)) (isort (openL n.notes)).length else []), iv (askedE n [] m)] ∧ objs' = objs) := by
  refine DCall.frame ?_ (by simp) (by simp) objs
  refine DCall_intro Tryz.func24 rfl Tryz.ntmps24 (by simp) rfl ?_
  try simp only [notesv, iv]
  have c1 := asked_c n [] m hG hN hS hs (by simp)
  by_cases h0 : askedE n [] m = 0
  · rw [h0, show askedR n [] m = .one (.im (fileI n)) by unfold askedR; rw [if_pos h0]] at c1
    have hnk := notes_ok (asked_ok h0).1
    have hn12 := hnk.2.1
    have hO5 : (isort (openL n.notes)).length ≤ 5 := by rw [isortL]; exact hnk.2.2.2
    have hrl : n.reg.length < 1000 := by have := hs.1.1; omega
    have c2 := truthsF_c (G := G) (fileI n)
    have c4 := fun t (ht : t.length < 1000) => lettersP_c (G := G) n t m (by omega) hrl ht
    rw [if_pos h0, h0]
    have hNl := numsTo_length n.reg n.reg.length
    rw [show numsTo n.reg n.reg.length = nums n.reg from rfl] at hNl
    simp only [fileI, isv, iv, List.map_nil] at c1 c2 c4
    generalize hO : isort (openL n.notes) = O at *
    have hPe : (2 : Nat) ^ O.length ≤ 2 ^ 5 := Nat.pow_le_pow_right (by omega) hO5
    have hmin : min O.length 64 = O.length := by omega
    have hb64 : IntKind.i64.bits = 64 := rfl
    have hlnn : ¬ ((O.length : Int) < 0) := by omega
    have hxlt : ∀ s i, s < 2 ^ O.length → i < O.length → s ^^^ 2 ^ i < 2 ^ O.length := fun s i h1 h2 => Nat.xor_lt_two_pow h1 (Nat.pow_lt_pow_right (by omega) h2)
    have hMlt := matM_lt (difB (letsL n m O (2 ^ O.length))) O.length
    have hsh : IntKind.i64.wrap ((2 : Int) ^ O.length) = ((2 ^ O.length : Nat) : Int) := by
      rw [show ((2 : Int) ^ O.length) = ((2 ^ O.length : Nat) : Int) by simp]
      exact (fun (P : Nat) (h : P ≤ 2 ^ 5) => (i64w (by omega) (by omega) : IntKind.i64.wrap (P : Int) = (P : Int))) _ hPe
    generalize hP : 2 ^ O.length = P at *
    have hP24 : P * 24 ≤ 140737488355328 := by omega
    have hP9 : P ≤ 9223372036854775807 := by omega
    have hs : True := trivial
    repeat' first | (with_reducible first | refine q01 ?_ | refine q11 ?_ | refine q12 ?_ | refine q14 ?_) | (refine CallE.pure (c1) ?_; try simp -dsimp [hmin, hb64, hlnn, hsh, hP24, hP9, hs]) | (refine CallE.pure (c2) ?_; try simp -dsimp [hmin, hb64, hlnn, hsh, hP24, hP9, hs]) | (with_reducible refine DT_regionE [0, 1, 2, 3, 4, 5, 6, 7, 8, 9, 10, 11, 12, 13, 14, 22, 32, 33, 34, 42, 43, 44, 45, 53, 54, 55, 66] ?_; simp -dsimp [hmin, hb64, hlnn, hsh, hP24, hP9, hs]) | (refine DT_cond rfl (fun h => ?_) (fun h => ?_) <;> (try simp only [nrm] at h) <;> (try exact Bool.noConfusion h))
    all_goals try simp -dsimp [hmin, hb64, hlnn, hsh, hP24, hP9, hs]
    all_goals try clear hs
    refine DT_rangeFunc (f := 96) (by simp; exact rfl) (by rfl) Tryz.call96 ?_
    generalize hR : LoopD.mk _ _ _ _ _ _ _ = R
    have hR1 : R.st = .ready := by rw [← hR]
    have hR2 : R.pend = none := by rw [← hR]
    have hR3 : R.at .ready none = R := by rw [← hR]; rfl
    have hR4 := (congrArg LoopD.nt hR).symm
    have hR5 := (congrArg LoopD.tm hR).symm
    have hR6 := (congrArg LoopD.ps hR).symm
    have hR7 := (congrArg LoopD.asg hR).symm
    have hR8 := (congrArg LoopD.body hR).symm
    dsimp only at hR4 hR5 hR6 hR7 hR8
    clear hR
    refine DCall_intro Tryz.func96 rfl Tryz.ntmps96 (by simp) rfl ?_
    have hR9 : ∀ objs : List DObj, (R.tm.map fun x => (x.1, fzV 7 objs x.2)) = R.tm := by intro objs; rw [hR5]; simp
    have ht0 := tabL_zero n m O P
    have hs : True := trivial
    repeat' first | (with_reducible first | refine q01 ?_ | refine q11 ?_ | refine q12 ?_) | (with_reducible refine DT_regionE [0, 1, 2, 3, 4, 5, 6, 7, 8, 9, 10, 11, 12, 13, 14, 22, 32, 33, 34, 42, 43, 44, 45, 53, 54, 55, 66] ?_; simp -dsimp [hR1, hR2, hR3, hmin, hb64, hlnn, hsh, hs])
    all_goals try simp -dsimp [hR1, hR2, hR3, hmin, hb64, hlnn, hsh, hs]
    all_goals try clear hs
    refine DT_loop (ι := { k : Nat // k ≤ P }) (fun p => ⟨24, [(0, .one (.yld 7)), (1, .one (.im (.ip [.ip [.sl (n.reg.map encIssue), .sl (n.notes.map encNote), .sl ((nums n.reg).map encI), .sl (O.map encI)]]))), (9, iv (P : Int)), (10, iv (p.1 : Int))], [.row ((encNotes n).map .im), .row [.im (rI m)], .vec 1 [] 0 true, .row [.im (.ip [.sl (n.reg.map encIssue), .sl (n.notes.map encNote), .sl ((nums n.reg).map encI), .sl (O.map encI)])], .vec 1 (ims ((tabL n m O P p.1).map encL)) 0 false, .vec 0 [] 0 true, .row [.vec 4 0 0 P], .loop R]⟩) (fun p => P - p.1) ⟨0, by simp⟩ (Weak.of_keep [0,1,9,10] (by simp [ht0])) ?_
    rintro ⟨k, hk⟩
    simp only [iv]
    have htl := tabL_len n m O hk
    by_cases hlt : k < P
    · have hw : IntKind.i64.wrap ((k : Int) + 1) = ((k + 1 : Nat) : Int) := i64w (by omega) (by omega)
      have hst := tabL_set n m O hlt
      have c5 := some_c (G := G) O k (by omega)
      have htl2 := selN_len O k O.length
      generalize selN O k O.length = t at *
      have c6 := c4 t (by omega)
      rw [letters_eq] at c6
      simp only [iv, isv] at c5 c6
      generalize lettersK n t m = X at *
      generalize tabL n m O P k = T at *
      have hkT : k < T.length := by omega
      have hs : True := trivial
      repeat' first | (with_reducible first | refine q01 ?_ | refine q04 ?_ | refine q11 ?_ | refine q12 ?_ | refine q14 ?_) | (with_reducible refine At.yield_end ?_; simp -dsimp [hR1, hR2, hR3, hlt, hw, hkT, hs]) | (refine At_busy ?_ ?_ <;> simp -dsimp [hR1, hR2, hR3, hlt, hw, hkT, hs]) | (refine YieldE_go ?_; simp -dsimp [YieldR, hR4, hR5, hR6, hR7, hR8, hR1, hR2, hR3, hlt, hw, hkT, hs]) | (refine CallE.pure (c5) ?_; try simp -dsimp [hR1, hR2, hR3, hlt, hw, hkT, hs]) | (refine QCall_pure (c6) ?_; try simp -dsimp [hR1, hR2, hR3, hlt, hw, hkT, hs]) | (refine DT_regionM (id := 8) (nt := 79) 7 [0, 1, 2, 3, 4, 5, 6, 7, 8, 9, 10, 11, 12, 13, 14, 22, 32, 33, 34, 42, 43, 44, 45, 53, 54, 55, 66] mixed rfl (by kernel_rfl) ?_; simp -dsimp [hR1, hR2, hR3, hlt, hw, hkT, hs]) | (with_reducible refine DT_regionE [0, 1, 2, 3, 4, 5, 6, 7, 8, 9, 10, 11, 12, 13, 14, 22, 32, 33, 34, 42, 43, 44, 45, 53, 54, 55, 66] ?_; simp -dsimp [hR1, hR2, hR3, hlt, hw, hkT, hs]) | (refine DT_cond rfl (fun h => ?_) (fun h => ?_) <;> (try simp only [nrm] at h) <;> (try exact Bool.noConfusion h))
      all_goals try simp -dsimp [hR1, hR2, hR3, hlt, hw, hkT, hs]
      all_goals try clear hs
      all_goals exact At.round ⟨k + 1, by omega⟩ (by simp only; omega) (Weak.of_keep [0,1,9,10] (by simp [hst, List.map_set]))
    · obtain rfl : k = P := by omega
      rw [tabL_full]
      have hLl := letsL_len n m O k
      have hLm := fun s X (h : (letsL n m O k)[s]? = some X) => letsL_mem h
      generalize letsL n m O k = L at *
      have hs : True := trivial
      repeat' first | (with_reducible first | refine q01 ?_ | refine q03 ?_ | refine q04 ?_ | refine q06 ?_ | refine q11 ?_ | refine q12 ?_ | refine q16 ?_) | (with_reducible refine At.fn_end (by simp -dsimp [hR1, hR2, hR3, hlt, hs]; exact rfl) ?_) | (with_reducible show LoopR _ _ _ _ _ _ _ _; simp -dsimp [LoopR, hR1, hR2, hR3, hlt, hs]) | (with_reducible refine DT_regionE [0, 1, 2, 3, 4, 5, 6, 7, 8, 9, 10, 11, 12, 13, 14, 22, 32, 33, 34, 42, 43, 44, 45, 53, 54, 55, 66] ?_; simp -dsimp [hR1, hR2, hR3, hlt, hs]) | (refine DT_cond rfl (fun h => ?_) (fun h => ?_) <;> (try simp only [nrm] at h) <;> (try exact Bool.noConfusion h))
      all_goals try simp -dsimp [hR1, hR2, hR3, hlt, hs]
      all_goals try clear hs
      refine DT_loop (ι := { s : Nat // s ≤ k }) (fun p => ⟨79, [(6, .one (.ptr 3 0)), (8, .one (.ptr 6 0)), (11, iv ((matM (difB L) O.length p.1 : Nat) : Int)), (42, .one (.vec 4 0 0 k)), (43, iv (k : Int)), (44, iv (p.1 : Int))], [.row ((encNotes n).map .im), .row [.im (rI m)], .vec 1 [] 0 true, .row [.im (.ip [.sl (n.reg.map encIssue), .sl (n.notes.map encNote), .sl ((nums n.reg).map encI), .sl (O.map encI)])], .vec 1 (ims (L.map encL)) 0 false, .vec 0 [] 0 true, .row [.vec 4 0 0 k]]⟩) (fun p => k - p.1) ⟨0, by simp⟩ (Weak.of_drop [6,8,11,42,43,44] 7 (by simp) (by simp) (by simp [matM])) ?_
      rintro ⟨s, hs'⟩
      simp only [iv]
      have hMs := hMlt s
      by_cases hls : s < k
      · have hws : IntKind.i64.wrap ((s : Int) + 1) = ((s + 1 : Nat) : Int) := i64w (by omega) (by omega)
        have hsL : s < L.length := by omega
        have hX : L[s]? = some L[s] := List.getElem?_eq_getElem hsL
        have hXl := hLm s _ hX
        have hMn : matM (difB L) O.length (s + 1) = rowM (difB L s) (matM (difB L) O.length s) O.length := rfl
        have hdif : ∀ i Y, L[s ^^^ 2 ^ i]? = some Y → difB L s i = !decide (L[s] = Y) := fun i Y h => by
          unfold difB; rw [h, hX]; by_cases e : L[s] = Y <;> simp [e]
        generalize hXe : L[s] = X at *
        have hrow : ∀ i, i ≤ O.length → rowM (difB L s) (matM (difB L) O.length s) i < k := fun i h => by
          have := rowM_lt (d := difB L s) (M := matM (difB L) O.length s) (m := O.length) (by rw [hP]; exact hMs) i h
          rwa [hP] at this
        generalize matM (difB L) O.length s = M at *
        have hs : True := trivial
        repeat' first | (with_reducible first | refine q01 ?_ | refine q11 ?_ | refine q12 ?_ | refine q14 ?_) | (with_reducible refine DT_regionE [0, 1, 2, 3, 4, 5, 6, 7, 8, 9, 10, 11, 12, 13, 14, 22, 32, 33, 34, 42, 43, 44, 45, 53, 54, 55, 66] ?_; simp -dsimp [hR1, hR2, hR3, hls, hsL, hX, hXe, hs]) | (refine DT_cond rfl (fun h => ?_) (fun h => ?_) <;> (try simp only [nrm] at h) <;> (try exact Bool.noConfusion h))
        all_goals try simp -dsimp [hR1, hR2, hR3, hls, hsL, hX, hXe, hs]
        all_goals try clear hs
        refine DT_loop (ι := { i : Nat // i ≤ O.length }) (fun p => ⟨79, [(6, .one (.ptr 3 0)), (8, .one (.ptr 6 0)), (11, iv ((rowM (difB L s) M p.1 : Nat) : Int)), (12, iv (s : Int)), (13, isv X), (42, .one (.vec 4 0 0 k)), (43, iv (k : Int)), (44, iv (s : Int)), (53, iv (O.length : Int)), (54, iv (p.1 : Int))], [.row ((encNotes n).map .im), .row [.im (rI m)], .vec 1 [] 0 true, .row [.im (.ip [.sl (n.reg.map encIssue), .sl (n.notes.map encNote), .sl ((nums n.reg).map encI), .sl (O.map encI)])], .vec 1 (ims (L.map encL)) 0 false, .vec 0 [] 0 true, .row [.vec 4 0 0 k]]⟩) (fun p => O.length - p.1) ⟨0, by simp⟩ (Weak.of_keep [6,8,11,12,13,42,43,44,53,54] (by simp [rowM])) ?_
        rintro ⟨i, hi⟩
        simp only [iv, isv]
        have hMi := hrow i hi
        by_cases hil : i < O.length
        · have hwi : IntKind.i64.wrap ((i : Int) + 1) = ((i + 1 : Nat) : Int) := i64w (by omega) (by omega)
          have hin : ¬ ((i : Int) < 0) := by omega
          have hmini : min i 64 = i := by omega
          have hxk := hxlt s i hls hil
          have hxor := xor_at (s := s) (i := i) (by omega) (by omega)
          have hor := or_at (s := rowM (difB L s) M i) (i := i) (by omega) (by omega)
          have hQ5 : 2 ^ i < 2 ^ 5 := Nat.pow_lt_pow_right (by omega) (by omega)
          have hrs : rowM (difB L s) M (i + 1) = if difB L s i = true then rowM (difB L s) M i ||| 2 ^ i else rowM (difB L s) M i := rfl
          have hshi : IntKind.i64.wrap ((2 : Int) ^ i) = ((2 ^ i : Nat) : Int) := by
            rw [show ((2 : Int) ^ i) = ((2 ^ i : Nat) : Int) by simp]
            exact (fun (P : Nat) (h : P < 2 ^ 5) => (i64w (by omega) (by omega) : IntKind.i64.wrap (P : Int) = (P : Int))) _ hQ5
          have hdi := hdif i
          generalize hQ : 2 ^ i = Q at *
          generalize rowM (difB L s) M i = R1 at *
          have hyL : s ^^^ Q < L.length := by omega
          have hY : L[s ^^^ Q]? = some L[s ^^^ Q] := List.getElem?_eq_getElem hyL
          have hYl := hLm _ _ hY
          have hd := hdi _ hY
          have hyk : ((s ^^^ Q : Nat) : Int) < (k : Int) := by omega
          generalize hYe : L[s ^^^ Q] = Y at *
          generalize hZ : s ^^^ Q = Z at *
          have c7 := equal_c (G := G) X Y (by omega) (by omega)
          simp at hxor hor
          rw [hd] at hrs
          simp only [isv, bv] at c7
          by_cases hXY : X = Y
          · rw [decide_eq_true hXY] at hrs c7
            rw [if_neg (by simp)] at hrs
            have hs : True := trivial
            repeat' first | (with_reducible first | refine q01 ?_ | refine q04 ?_ | refine q11 ?_ | refine q12 ?_ | refine q14 ?_) | (refine QCall_pure (c7) ?_; try simp -dsimp [hR1, hR2, hR3, hil, hwi, hin, hmini, hb64, hshi, hxor, hxk, hyk, hyL, hY, hYe, hs]) | (refine DT_regionM (id := 16) (nt := 79) 10 [0, 1, 2, 3, 4, 5, 6, 7, 8, 9, 10, 11, 12, 13, 14, 22, 32, 33, 34, 42, 43, 44, 45, 53, 54, 55, 66] mixed rfl (by kernel_rfl) ?_; simp -dsimp [hR1, hR2, hR3, hil, hwi, hin, hmini, hb64, hshi, hxor, hxk, hyk, hyL, hY, hYe, hs]) | (with_reducible refine DT_regionE [0, 1, 2, 3, 4, 5, 6, 7, 8, 9, 10, 11, 12, 13, 14, 22, 32, 33, 34, 42, 43, 44, 45, 53, 54, 55, 66] ?_; simp -dsimp [hR1, hR2, hR3, hil, hwi, hin, hmini, hb64, hshi, hxor, hxk, hyk, hyL, hY, hYe, hs]) | (refine DT_cond rfl (fun h => ?_) (fun h => ?_) <;> (try simp only [nrm] at h) <;> (try exact Bool.noConfusion h))
            all_goals try simp -dsimp [hR1, hR2, hR3, hil, hwi, hin, hmini, hb64, hshi, hxor, hxk, hyk, hyL, hY, hYe, hs]
            all_goals try clear hs
            all_goals exact At.round ⟨i + 1, by omega⟩ (by simp only; omega) (Weak.of_keep [6,8,11,12,13,42,43,44,53,54] (by simp [hrs]))
          · rw [decide_eq_false hXY] at hrs c7
            rw [if_pos (by simp)] at hrs
            have hs : True := trivial
            repeat' first | (with_reducible first | refine q01 ?_ | refine q04 ?_ | refine q11 ?_ | refine q12 ?_ | refine q14 ?_) | (refine QCall_pure (c7) ?_; try simp -dsimp [hR1, hR2, hR3, hil, hwi, hin, hmini, hb64, hshi, hxor, hxk, hyk, hyL, hY, hYe, hor, hs]) | (refine DT_regionM (id := 16) (nt := 79) 10 [0, 1, 2, 3, 4, 5, 6, 7, 8, 9, 10, 11, 12, 13, 14, 22, 32, 33, 34, 42, 43, 44, 45, 53, 54, 55, 66] mixed rfl (by kernel_rfl) ?_; simp -dsimp [hR1, hR2, hR3, hil, hwi, hin, hmini, hb64, hshi, hxor, hxk, hyk, hyL, hY, hYe, hor, hs]) | (with_reducible refine DT_regionE [0, 1, 2, 3, 4, 5, 6, 7, 8, 9, 10, 11, 12, 13, 14, 22, 32, 33, 34, 42, 43, 44, 45, 53, 54, 55, 66] ?_; simp -dsimp [hR1, hR2, hR3, hil, hwi, hin, hmini, hb64, hshi, hxor, hxk, hyk, hyL, hY, hYe, hor, hs]) | (refine DT_cond rfl (fun h => ?_) (fun h => ?_) <;> (try simp only [nrm] at h) <;> (try exact Bool.noConfusion h))
            all_goals try simp -dsimp [hR1, hR2, hR3, hil, hwi, hin, hmini, hb64, hshi, hxor, hxk, hyk, hyL, hY, hYe, hor, hs]
            all_goals try clear hs
            all_goals exact At.round ⟨i + 1, by omega⟩ (by simp only; omega) (Weak.of_keep [6,8,11,12,13,42,43,44,53,54] (by simp [hrs, hor]))
        · obtain rfl : i = O.length := by omega
          have hs : True := trivial
          repeat' first | (with_reducible first | refine q01 ?_ | refine q03 ?_ | refine q04 ?_ | refine q06 ?_ | refine q11 ?_ | refine q16 ?_) | (with_reducible refine DT_regionE [0, 1, 2, 3, 4, 5, 6, 7, 8, 9, 10, 11, 12, 13, 14, 22, 32, 33, 34, 42, 43, 44, 45, 53, 54, 55, 66] ?_; simp -dsimp [hR1, hR2, hR3, hil, hws, hs]) | (refine DT_cond rfl (fun h => ?_) (fun h => ?_) <;> (try simp only [nrm] at h) <;> (try exact Bool.noConfusion h))
          all_goals try simp -dsimp [hR1, hR2, hR3, hil, hws, hs]
          all_goals try clear hs
          all_goals exact At.round ⟨s + 1, by omega⟩ (by simp only; omega) (Weak.of_keep [6,8,11,42,43,44] (by simp [hMn]))
      · obtain rfl : s = k := by omega
        generalize matM (difB L) O.length s = M at *
        have c8 := some_c (G := G) O M (by omega)
        simp only [iv, isv] at c8
        have hs : True := trivial
        repeat' first | (with_reducible first | refine q01 ?_ | refine q03 ?_ | refine q06 ?_ | refine q11 ?_ | refine q16 ?_ | refine q17 ?_) | (with_reducible refine At.fn_ret (by simp -dsimp [hR1, hR2, hR3, hls, hs]; exact rfl) ?_) | (refine CallE.pure (c8) ?_; try simp -dsimp [hR1, hR2, hR3, hls, hs]) | (with_reducible refine DT_regionE [0, 1, 2, 3, 4, 5, 6, 7, 8, 9, 10, 11, 12, 13, 14, 22, 32, 33, 34, 42, 43, 44, 45, 53, 54, 55, 66] ?_; simp -dsimp [hR1, hR2, hR3, hls, hs]) | (refine DT_cond rfl (fun h => ?_) (fun h => ?_) <;> (try simp only [nrm] at h) <;> (try exact Bool.noConfusion h))
        all_goals try simp -dsimp [hR1, hR2, hR3, hls, hs]
        all_goals try clear hs
        all_goals simp
  · rw [show askedR n [] m = .one (.im (.raw (.pointer none))) by unfold askedR; rw [if_neg h0]] at c1
    rw [if_neg h0]
    simp only [isv, iv, List.map_nil] at c1
    have hs : True := trivial
    repeat' first | (with_reducible first | refine q01 ?_ | refine q02 ?_ | refine q11 ?_ | refine q17 ?_) | (with_reducible refine At.fn_ret (by simp -dsimp [h0, hs]; exact rfl) ?_) | (refine CallE.pure (c1) ?_; try simp -dsimp [h0, hs]) | (with_reducible refine DT_regionE [0, 1, 2, 3, 4, 5, 6, 7, 8, 9, 10, 11, 12, 13, 14, 22, 32, 33, 34, 42, 43, 44, 45, 53, 54, 55, 66] ?_; simp -dsimp [h0, hs]) | (refine DT_cond rfl (fun h => ?_) (fun h => ?_) <;> (try simp only [nrm] at h) <;> (try exact Bool.noConfusion h))
    all_goals try simp -dsimp [h0, hs]
    all_goals try clear hs
    all_goals simp [h0]
end Go.Proofs
namespace Go.Proofs
open Go Go.Ab
set_option linter.unusedSimpArgs false
variable {G : Nat → Option (List IC)}
theorem sameI3_c (a b : List Int) (ha : a.length < 1000000) (hb : b.length < 1000000) (objs : List DObj) : DCall Tryz.prog G 63 [isv a, isv b] objs (fun rr objs' => rr = bv (decide (a = b)) ∧ objs' = objs) := by
  refine DCall.frame ?_ (by simp) (by simp) objs
  refine DCall_intro Tryz.func63 rfl Tryz.ntmps63 (by simp) rfl ?_
  try simp only [isv, isv]
  by_cases hl : a.length = b.length
  · have hli : (a.length : Int) = b.length := by omega
    have hs : True := trivial
    repeat' first | (with_reducible first | refine q01 ?_ | refine q11 ?_ | refine q12 ?_ | refine q14 ?_) | (with_reducible refine DT_regionE [0, 1, 4, 5, 10, 14, 25] ?_; simp -dsimp [hl, hli, hs]) | (refine DT_cond rfl (fun h => ?_) (fun h => ?_) <;> (try simp only [nrm] at h) <;> (try exact Bool.noConfusion h))
    all_goals try simp -dsimp [hl, hli, hs]
    all_goals try clear hs
    refine DT_loop (ι := { k : Nat // k ≤ b.length ∧ a.take k = b.take k }) (fun p => ⟨26, [(0, isv a), (1, isv b), (5, iv (p.1 : Int))], []⟩) (fun p => b.length - p.1) ⟨0, by simp⟩ (Weak.of_keep [0,1,5] (by simp [hl])) ?_
    rintro ⟨k, hk, he⟩
    simp only [iv, isv]
    by_cases hlt : k < b.length
    · have hw : IntKind.i64.wrap ((k : Int) + 1) = ((k + 1 : Nat) : Int) := i64w (by omega) (by omega)
      have hka : k < a.length := by omega
      have hta : a.take (k + 1) = a.take k ++ [a[k]] := List.take_succ_eq_append_getElem hka
      have htb : b.take (k + 1) = b.take k ++ [b[k]] := List.take_succ_eq_append_getElem hlt
      generalize hx : a[k] = x at *
      generalize hy : b[k] = y at *
      by_cases hxy : x = y
      · have hs : True := trivial
        repeat' first | (with_reducible first | refine q01 ?_ | refine q04 ?_ | refine q11 ?_ | refine q12 ?_ | refine q14 ?_) | (refine DT_regionM (id := 6) (nt := 26) 9 [0, 1, 4, 5, 10, 14, 25] mixed rfl (by kernel_rfl) ?_; simp -dsimp [hx, hy, hlt, hka, hw, hl, hxy, hs]) | (with_reducible refine DT_regionE [0, 1, 4, 5, 10, 14, 25] ?_; simp -dsimp [hx, hy, hlt, hka, hw, hl, hxy, hs]) | (refine DT_cond rfl (fun h => ?_) (fun h => ?_) <;> (try simp only [nrm] at h) <;> (try exact Bool.noConfusion h))
        all_goals try simp -dsimp [hx, hy, hlt, hka, hw, hl, hxy, hs]
        all_goals try clear hs
        all_goals exact At.round ⟨k + 1, by omega, by rw [hta, htb, he, hxy]⟩ (by simp only; omega) (Weak.of_keep [0,1,5] (by simp [hl]))
      · have hne : ¬ a = b := fun e => hxy (by subst e; rw [← hx, ← hy])
        have hs : True := trivial
        repeat' first | (with_reducible first | refine q01 ?_ | refine q02 ?_ | refine q05 ?_ | refine q11 ?_ | refine q12 ?_ | refine q14 ?_ | refine q17 ?_) | (with_reducible refine At.fn_ret (by simp -dsimp [hx, hy, hlt, hka, hl, hxy, hs]; exact rfl) ?_) | (refine DT_regionM (id := 6) (nt := 26) 9 [0, 1, 4, 5, 10, 14, 25] mixed rfl (by kernel_rfl) ?_; simp -dsimp [hx, hy, hlt, hka, hl, hxy, hs]) | (with_reducible refine DT_regionE [0, 1, 4, 5, 10, 14, 25] ?_; simp -dsimp [hx, hy, hlt, hka, hl, hxy, hs]) | (refine DT_cond rfl (fun h => ?_) (fun h => ?_) <;> (try simp only [nrm] at h) <;> (try exact Bool.noConfusion h))
        all_goals try simp -dsimp [hx, hy, hlt, hka, hl, hxy, hs]
        all_goals try clear hs
        all_goals simp [hne]
    · obtain rfl : k = b.length := by omega
      rw [List.take_length, ← hl, List.take_length] at he
      have hs : True := trivial
      repeat' first | (with_reducible first | refine q01 ?_ | refine q03 ?_ | refine q06 ?_ | refine q11 ?_ | refine q16 ?_ | refine q17 ?_) | (with_reducible refine At.fn_ret (by simp -dsimp [hlt, hl, hs]; exact rfl) ?_) | (with_reducible refine DT_regionE [0, 1, 4, 5, 10, 14, 25] ?_; simp -dsimp [hlt, hl, hs]) | (refine DT_cond rfl (fun h => ?_) (fun h => ?_) <;> (try simp only [nrm] at h) <;> (try exact Bool.noConfusion h))
      all_goals try simp -dsimp [hlt, hl, hs]
      all_goals try clear hs
      all_goals simp [he]
  · have hli : ¬ (a.length : Int) = b.length := by omega
    have hne : ¬ a = b := fun e => hl (by rw [e])
    have hs : True := trivial
    repeat' first | (with_reducible first | refine q01 ?_ | refine q02 ?_ | refine q11 ?_ | refine q17 ?_) | (with_reducible refine At.fn_ret (by simp -dsimp [hl, hli, hs]; exact rfl) ?_) | (with_reducible refine DT_regionE [0, 1, 4, 5, 10, 14, 25] ?_; simp -dsimp [hl, hli, hs]) | (refine DT_cond rfl (fun h => ?_) (fun h => ?_) <;> (try simp only [nrm] at h) <;> (try exact Bool.noConfusion h))
    all_goals try simp -dsimp [hl, hli, hs]
    all_goals try clear hs
    all_goals simp [hne]
theorem letsL_at {n : Notes} {m : Int} {O : List Int} {k P : Nat} (h : k < P) : (letsL n m O P)[k]? = some (lettersK n (selN O k O.length) m) := by
  unfold letsL
  rw [List.getElem?_map, trTo_at h]; rfl
/-- The look of the first s sets. -/
def anyTo (L : List (List Int)) (i s : Nat) : Bool := (List.range s).any fun x => !x.testBit i && decide (L[x]? ≠ L[x + 2 ^ i]?)
theorem anyTo_zero (L : List (List Int)) (i : Nat) : anyTo L i 0 = false := rfl
theorem anyTo_succ (L : List (List Int)) (i s : Nat) : anyTo L i (s + 1) = (anyTo L i s || (!s.testBit i && decide (L[s]? ≠ L[s + 2 ^ i]?))) := by
  simp [anyTo, List.range_succ, List.any_append]
set_option maxHeartbeats 8000000 in
theorem rMatters_c (n : Notes) (m : Int) (hs : NSm n) (objs : List DObj) : DCall Tryz.prog G 25 [notesv n, iv m] objs (fun rr objs' => rr = .tup [isv (if askedE n [] m = 0 then selN (isort (openL n.notes)) (matM (difB (letsL n m (isort (openL n.notes)) (2 ^ (isort (openL n.notes)).length))) (isort (openL n.notes)).length (2 ^ (isort (openL n.notes)).length)) (isort (openL n.notes)).length else []), iv (askedE n [] m)] ∧ objs' = objs) := by
  refine DCall.frame ?_ (by simp) (by simp) objs
  refine DCall_intro Tryz.func25 rfl Tryz.ntmps25 (by simp) rfl ?_
  try simp only [notesv, iv]
  have c1 := asked3_c (G := G) n [] m hs (by simp)
  by_cases h0 : askedE n [] m = 0
  · rw [h0] at c1
    have hnk := notes_ok (asked_ok h0).1
    have hn12 := hnk.2.1
    have hO5 : (isort (openL n.notes)).length ≤ 5 := by rw [isortL]; exact hnk.2.2.2
    have hrl : n.reg.length < 1000 := by have := hs.1.1; omega
    have c2 := open3_c (G := G) n hs hnk.2.2.1
    have c3 := rTruths_c (G := G) n hs hnk.2.2.1 hnk.2.2.2
    have c4 := fun t (ht : t.length < 1000) => letters3_c (G := G) n t m (by omega) hrl ht
    rw [if_pos h0, h0]
    have hNl := numsTo_length n.reg n.reg.length
    rw [show numsTo n.reg n.reg.length = nums n.reg from rfl] at hNl
    have hnu := openI_nums (n := n)
    have hOl : (isort (openL n.notes)).length = (openI n.notes).length := by rw [← hnu, List.length_map]
    have hIlt : ∀ i ∈ openI n.notes, i < n.notes.length := fun i hi => openI_lt hi
    have hJl : (idxv (openI n.notes)).length = (isort (openL n.notes)).length := by rw [hOl]; simp [idxv]
    have hJi : ∀ i (h : i < (isort (openL n.notes)).length), ∃ j, ∃ hj : j < n.notes.length, (idxv (openI n.notes))[i]? = some (j : Int) ∧ (isort (openL n.notes))[i] = n.notes[j].number := fun i h => by
      have hi : i < (openI n.notes).length := by omega
      refine ⟨(openI n.notes)[i], hIlt _ (List.getElem_mem hi), by simp [idxv, hi], ?_⟩
      have h1 : ((openI n.notes).map (numAt n.notes))[i]? = (isort (openL n.notes))[i]? := by rw [hnu]
      rw [List.getElem?_map, List.getElem?_eq_getElem hi, List.getElem?_eq_getElem h] at h1
      simp only [Option.map_some, Option.some.injEq] at h1
      rw [← h1]
      simp [numAt, hIlt _ (List.getElem_mem hi)]
    clear hnu hIlt hOl
    simp only [isv, iv, lsv, List.map_nil] at c1 c2 c3 c4
    generalize hO : isort (openL n.notes) = O at *
    generalize idxv (openI n.notes) = J at *
    have hPe : (2 : Nat) ^ O.length ≤ 2 ^ 5 := Nat.pow_le_pow_right (by omega) hO5
    have hmat := fun i (h : i < O.length) => mat_eq (L := letsL n m O (2 ^ O.length)) hO5 h
    have hxk : ∀ s i, s < 2 ^ O.length → i < O.length → s.testBit i = false → s + 2 ^ i < 2 ^ O.length := fun s i h1 h2 h3 => by
      rw [← (xor_all s (by omega) i (by omega)).1 h3]
      exact Nat.xor_lt_two_pow h1 (Nat.pow_lt_pow_right (by omega) h2)
    rw [show truthsL O = trTo O (2 ^ O.length) from rfl] at c3
    generalize matM (difB (letsL n m O (2 ^ O.length))) O.length (2 ^ O.length) = Mx at *
    generalize hP : 2 ^ O.length = P at *
    have hLa := fun s (h : s < P) => letsL_at (n := n) (m := m) (O := O) h
    generalize letsL n m O P = L at *
    have hTl := trTo_len O P
    have hTi := fun k (h : k < P) => trTo_at (O := O) h
    generalize trTo O P = T at *
    have hz0 : selN O Mx 0 = [] := by simp [selN]
    have hb64 : IntKind.i64.bits = 64 := rfl
    have hs : True := trivial
    repeat' first | (with_reducible first | refine q01 ?_ | refine q11 ?_ | refine q12 ?_ | refine q14 ?_) | (refine CallE.pure (c1) ?_; try simp -dsimp [hs]) | (refine QCall_pure (c2) ?_; try simp -dsimp [hs]) | (refine QCall_pure (c3) ?_; try simp -dsimp [hs]) | (refine DT_regionM (id := 4) (nt := 76) 6 [0, 1, 2, 4, 5, 6, 7, 8, 9, 10, 11, 12, 17, 26, 32, 39, 62] mixed rfl (by kernel_rfl) ?_; simp -dsimp [hs]) | (with_reducible refine DT_regionE [0, 1, 2, 4, 5, 6, 7, 8, 9, 10, 11, 12, 17, 26, 32, 39, 62] ?_; simp -dsimp [hs]) | (refine DT_cond rfl (fun h => ?_) (fun h => ?_) <;> (try simp only [nrm] at h) <;> (try exact Bool.noConfusion h))
    all_goals try simp -dsimp [hs]
    all_goals try clear hs
    refine DT_loop (ι := { p : Nat × Nat × Bool // p.1 ≤ O.length }) (fun p => ⟨76, [(1, iv m), (2, .one (.ptr 0 0)), (7, isv J), (8, .one (.im (.sl (T.map encL)))), (9, .one (.vec 2 p.1.2.1 0 (selN O Mx p.1.1).length)), (10, iv (p.1.1 : Int))], [.row ((encNotes n).map .im), .vec 1 [] 0 true, .vec 1 (ims ((selN O Mx p.1.1).map encI)) p.1.2.1 p.1.2.2]⟩) (fun p => O.length - p.1.1) ⟨(0, 0, true), by simp⟩ (Weak.of_keep [1,2,7,8,9,10] (by simp [hz0])) ?_
    rintro ⟨⟨i, g, nl⟩, hi⟩
    simp only at hi
    simp only [iv, isv]
    by_cases hil : i < O.length
    · have hwi : IntKind.i64.wrap ((i : Int) + 1) = ((i + 1 : Nat) : Int) := i64w (by omega) (by omega)
      have hi63 : min i 64 = i := by omega
      have hin : ¬ ((i : Int) < 0) := by omega
      have hSl := selN_len O Mx i
      obtain ⟨j, hj, hJ, hOi⟩ := hJi i hil
      have hJ2 : J[i]'(by omega) = (j : Int) := (List.getElem?_eq_some_iff.1 hJ).2
      have hsu : selN O Mx (i + 1) = selN O Mx i ++ (if Mx.testBit i = true then [n.notes[j].number] else []) := by
        rw [selN_succ, show O.getD i 0 = n.notes[j].number by simp [hil, hOi]]
      have hji : (j : Int) < n.notes.length := by omega
      have hm := hmat i hil
      rw [show matR L P i = anyTo L i P from rfl] at hm
      rw [hm] at hsu
      have hx1 := fun s h => hxk s i h hil
      have hQ5 : 2 ^ i < 2 ^ 5 := Nat.pow_lt_pow_right (by omega) (by omega)
      have has := anyTo_succ L i
      have haz := anyTo_zero L i
      have hshi : IntKind.i64.wrap ((2 : Int) ^ i) = ((2 ^ i : Nat) : Int) := by
        rw [show ((2 : Int) ^ i) = ((2 ^ i : Nat) : Int) by simp]
        exact (fun (P : Nat) (h : P < 2 ^ 5) => (i64w (by omega) (by omega) : IntKind.i64.wrap (P : Int) = (P : Int))) _ hQ5
      generalize hQ : 2 ^ i = Q at *
      generalize hx : n.notes[j] = x at *
      generalize selN O Mx i = S at *
      clear hmat hxk hm
      have hs : True := trivial
      repeat' first | (with_reducible first | refine q01 ?_ | refine q11 ?_ | refine q12 ?_ | refine q14 ?_) | (with_reducible refine DT_regionE [0, 1, 2, 4, 5, 6, 7, 8, 9, 10, 11, 12, 17, 26, 32, 39, 62] ?_; simp -dsimp [hJl, hil, hs]) | (refine DT_cond rfl (fun h => ?_) (fun h => ?_) <;> (try simp only [nrm] at h) <;> (try exact Bool.noConfusion h))
      all_goals try simp -dsimp [hJl, hil, hs]
      all_goals try clear hs
      refine DT_loop (ι := { s : Nat // s ≤ P }) (fun p => ⟨76, [(1, iv m), (2, .one (.ptr 0 0)), (7, isv J), (8, .one (.im (.sl (T.map encL)))), (9, .one (.vec 2 g 0 S.length)), (10, iv (i : Int)), (11, bv (anyTo L i p.1)), (12, iv (p.1 : Int))], [.row ((encNotes n).map .im), .vec 1 [] 0 true, .vec 1 (ims (S.map encI)) g nl]⟩) (fun p => P - p.1) ⟨0, by simp⟩ (Weak.of_keep [1,2,7,8,9,10,11,12] (by simp [haz])) ?_
      rintro ⟨s, hsP⟩
      simp only [iv, isv, bv]
      by_cases hls : s < P
      · have hws : IntKind.i64.wrap ((s : Int) + 1) = ((s + 1 : Nat) : Int) := i64w (by omega) (by omega)
        have hsT : s < T.length := by omega
        have hsTi : (s : Int) < (T.length : Int) := by omega
        have hbit := bit_at s i
        have hT := hTi s hls
        have hasS := has s
        have hLs := hLa s hls
        cases hb : s.testBit i
        · rw [hb] at hbit hasS
          simp at hbit
          have hyP := hx1 s hls hb
          obtain ⟨Z, hZ⟩ : ∃ Z, Z = s + Q := ⟨_, rfl⟩
          rw [← hZ] at hyP hasS
          have hyT : Z < T.length := by omega
          have hT2 := hTi (Z) hyP
          have hLs2 := hLa (Z) hyP
          have htl := selN_len O s O.length
          have htl2 := selN_len O (Z) O.length
          generalize selN O s O.length = t at *
          generalize selN O (Z) O.length = t2 at *
          have hTe : T[s] = t := (List.getElem?_eq_some_iff.1 hT).2
          have hTe2 : T[Z] = t2 := (List.getElem?_eq_some_iff.1 hT2).2
          have c5 := c4 t (by omega)
          have c6 := c4 t2 (by omega)
          have hXl := lettersK_len n t m
          have hYl := lettersK_len n t2 m
          generalize lettersK n t m = X at *
          generalize lettersK n t2 m = Y at *
          have c7 := sameI3_c (G := G) X Y (by omega) (by omega)
          simp only [isv, bv] at c7
          have hw2 : IntKind.i64.wrap ((s : Int) + (Q : Int)) = (Z : Int) := by rw [show (s : Int) + (Q : Int) = (Z : Int) by omega]; exact i64w (by omega) (by omega)
          have hyi : (Z : Int) < (T.length : Int) := by omega
          rw [hLs, hLs2] at hasS
          cases ha : anyTo L i s
          · rw [ha] at hasS
            by_cases hXY : X = Y
            · rw [decide_eq_true hXY] at c7
              have hasT : anyTo L i (s + 1) = false := by rw [hasS]; simp [hXY]
              have hs : True := trivial
              repeat' first | (with_reducible first | refine q01 ?_ | refine q04 ?_ | refine q11 ?_ | refine q12 ?_ | refine q14 ?_) | (refine QCall_pure (c5) ?_; try simp -dsimp [hsT, hsTi, hbit, hin, hi63, hb64, hws, hshi, hw2, hyT, hyi, hT, hTe, hT2, hTe2, hs]) | (refine QCall_pure (c6) ?_; try simp -dsimp [hsT, hsTi, hbit, hin, hi63, hb64, hws, hshi, hw2, hyT, hyi, hT, hTe, hT2, hTe2, hs]) | (refine QCall_pure (c7) ?_; try simp -dsimp [hsT, hsTi, hbit, hin, hi63, hb64, hws, hshi, hw2, hyT, hyi, hT, hTe, hT2, hTe2, hs]) | (refine DT_regionM (id := 14) (nt := 76) 23 [0, 1, 2, 4, 5, 6, 7, 8, 9, 10, 11, 12, 17, 26, 32, 39, 62] mixed rfl (by kernel_rfl) ?_; simp -dsimp [hsT, hsTi, hbit, hin, hi63, hb64, hws, hshi, hw2, hyT, hyi, hT, hTe, hT2, hTe2, hs]) | (with_reducible refine DT_regionE [0, 1, 2, 4, 5, 6, 7, 8, 9, 10, 11, 12, 17, 26, 32, 39, 62] ?_; simp -dsimp [hsT, hsTi, hbit, hin, hi63, hb64, hws, hshi, hw2, hyT, hyi, hT, hTe, hT2, hTe2, hs]) | (refine DT_cond rfl (fun h => ?_) (fun h => ?_) <;> (try simp only [nrm] at h) <;> (try exact Bool.noConfusion h))
              all_goals try simp -dsimp [hsT, hsTi, hbit, hin, hi63, hb64, hws, hshi, hw2, hyT, hyi, hT, hTe, hT2, hTe2, hs]
              all_goals try clear hs
              all_goals exact At.round ⟨s + 1, by omega⟩ (by simp only; omega) (Weak.of_keep [1,2,7,8,9,10,11,12] (by simp [hasT]))
            · rw [decide_eq_false hXY] at c7
              have hasT : anyTo L i (s + 1) = true := by rw [hasS]; simp [hXY]
              have hs : True := trivial
              repeat' first | (with_reducible first | refine q01 ?_ | refine q04 ?_ | refine q11 ?_ | refine q12 ?_ | refine q14 ?_) | (refine QCall_pure (c5) ?_; try simp -dsimp [hsT, hsTi, hbit, hin, hi63, hb64, hws, hshi, hw2, hyT, hyi, hT, hTe, hT2, hTe2, hs]) | (refine QCall_pure (c6) ?_; try simp -dsimp [hsT, hsTi, hbit, hin, hi63, hb64, hws, hshi, hw2, hyT, hyi, hT, hTe, hT2, hTe2, hs]) | (refine QCall_pure (c7) ?_; try simp -dsimp [hsT, hsTi, hbit, hin, hi63, hb64, hws, hshi, hw2, hyT, hyi, hT, hTe, hT2, hTe2, hs]) | (refine DT_regionM (id := 14) (nt := 76) 23 [0, 1, 2, 4, 5, 6, 7, 8, 9, 10, 11, 12, 17, 26, 32, 39, 62] mixed rfl (by kernel_rfl) ?_; simp -dsimp [hsT, hsTi, hbit, hin, hi63, hb64, hws, hshi, hw2, hyT, hyi, hT, hTe, hT2, hTe2, hs]) | (with_reducible refine DT_regionE [0, 1, 2, 4, 5, 6, 7, 8, 9, 10, 11, 12, 17, 26, 32, 39, 62] ?_; simp -dsimp [hsT, hsTi, hbit, hin, hi63, hb64, hws, hshi, hw2, hyT, hyi, hT, hTe, hT2, hTe2, hs]) | (refine DT_cond rfl (fun h => ?_) (fun h => ?_) <;> (try simp only [nrm] at h) <;> (try exact Bool.noConfusion h))
              all_goals try simp -dsimp [hsT, hsTi, hbit, hin, hi63, hb64, hws, hshi, hw2, hyT, hyi, hT, hTe, hT2, hTe2, hs]
              all_goals try clear hs
              all_goals exact At.round ⟨s + 1, by omega⟩ (by simp only; omega) (Weak.of_keep [1,2,7,8,9,10,11,12] (by simp [hasT]))
          · rw [ha] at hasS
            have hasT : anyTo L i (s + 1) = true := by rw [hasS]; simp
            have hs : True := trivial
            repeat' first | (with_reducible first | refine q01 ?_ | refine q04 ?_ | refine q11 ?_ | refine q12 ?_ | refine q14 ?_) | (refine DT_regionM (id := 14) (nt := 76) 23 [0, 1, 2, 4, 5, 6, 7, 8, 9, 10, 11, 12, 17, 26, 32, 39, 62] mixed rfl (by kernel_rfl) ?_; simp -dsimp [hsT, hsTi, hbit, hin, hi63, hb64, hws, hs]) | (with_reducible refine DT_regionE [0, 1, 2, 4, 5, 6, 7, 8, 9, 10, 11, 12, 17, 26, 32, 39, 62] ?_; simp -dsimp [hsT, hsTi, hbit, hin, hi63, hb64, hws, hs]) | (refine DT_cond rfl (fun h => ?_) (fun h => ?_) <;> (try simp only [nrm] at h) <;> (try exact Bool.noConfusion h))
            all_goals try simp -dsimp [hsT, hsTi, hbit, hin, hi63, hb64, hws, hs]
            all_goals try clear hs
            all_goals exact At.round ⟨s + 1, by omega⟩ (by simp only; omega) (Weak.of_keep [1,2,7,8,9,10,11,12] (by simp [hasT]))
        · rw [hb] at hbit hasS
          simp at hbit
          have hasT : anyTo L i (s + 1) = anyTo L i s := by rw [hasS]; simp
          generalize anyTo L i s = v at *
          have hs : True := trivial
          repeat' first | (with_reducible first | refine q01 ?_ | refine q04 ?_ | refine q11 ?_ | refine q12 ?_ | refine q14 ?_) | (with_reducible refine DT_regionE [0, 1, 2, 4, 5, 6, 7, 8, 9, 10, 11, 12, 17, 26, 32, 39, 62] ?_; simp -dsimp [hsT, hsTi, hbit, hin, hi63, hb64, hws, hs]) | (refine DT_cond rfl (fun h => ?_) (fun h => ?_) <;> (try simp only [nrm] at h) <;> (try exact Bool.noConfusion h))
          all_goals try simp -dsimp [hsT, hsTi, hbit, hin, hi63, hb64, hws, hs]
          all_goals try clear hs
          all_goals exact At.round ⟨s + 1, by omega⟩ (by simp only; omega) (Weak.of_keep [1,2,7,8,9,10,11,12] (by simp [hasT]))
      · obtain rfl : s = P := by omega
        have hsTi : ¬ ((s : Int) < (T.length : Int)) := by omega
        have hsT : ¬ (s < T.length) := by omega
        cases hv : anyTo L i s
        · rw [hv, if_neg Bool.false_ne_true, List.append_nil] at hsu
          have hs : True := trivial
          repeat' first | (with_reducible first | refine q01 ?_ | refine q03 ?_ | refine q04 ?_ | refine q06 ?_ | refine q11 ?_ | refine q14 ?_ | refine q16 ?_) | (with_reducible refine DT_regionE [0, 1, 2, 4, 5, 6, 7, 8, 9, 10, 11, 12, 17, 26, 32, 39, 62] ?_; simp -dsimp [hsTi, hsT, hwi, hs]) | (refine DT_cond rfl (fun h => ?_) (fun h => ?_) <;> (try simp only [nrm] at h) <;> (try exact Bool.noConfusion h))
          all_goals try simp -dsimp [hsTi, hsT, hwi, hs]
          all_goals try clear hs
          all_goals exact At.round ⟨(i + 1, g, nl), by simp only; omega⟩ (by simp only; omega) (Weak.of_keep [1,2,7,8,9,10] (by simp [hsu]))
        · rw [hv, if_pos rfl] at hsu
          have hs : True := trivial
          repeat' first | (with_reducible first | refine q01 ?_ | refine q03 ?_ | refine q04 ?_ | refine q06 ?_ | refine q11 ?_ | refine q16 ?_ | refine And.intro (by omega) ?_) | (refine DT_regionM (id := 16) (nt := 76) 11 [0, 1, 2, 4, 5, 6, 7, 8, 9, 10, 11, 12, 17, 26, 32, 39, 62] mixed rfl (by kernel_rfl) ?_; simp -dsimp [hsTi, hsT, hwi, hJl, hil, hJ, hJ2, hx, hj, hji, hs]) | (with_reducible refine DT_regionE [0, 1, 2, 4, 5, 6, 7, 8, 9, 10, 11, 12, 17, 26, 32, 39, 62] ?_; simp -dsimp [hsTi, hsT, hwi, hJl, hil, hJ, hJ2, hx, hj, hji, hs]) | (refine DT_cond rfl (fun h => ?_) (fun h => ?_) <;> (try simp only [nrm] at h) <;> (try exact Bool.noConfusion h))
          all_goals try simp -dsimp [hsTi, hsT, hwi, hJl, hil, hJ, hJ2, hx, hj, hji, hs]
          all_goals try clear hs
          all_goals exact At.round ⟨(i + 1, g + 1, false), by simp only; omega⟩ (by simp only; omega) (Weak.of_drop [1,2,7,8,9,10] 3 (by simp) (by simp) (by simp [hsu]))
    · obtain rfl : i = O.length := by omega
      generalize selN O Mx O.length = S at *
      have hs : True := trivial
      repeat' first | (with_reducible first | refine q01 ?_ | refine q03 ?_ | refine q06 ?_ | refine q11 ?_ | refine q16 ?_ | refine q17 ?_) | (with_reducible refine At.fn_ret (by simp -dsimp [hJl, hs]; exact rfl) ?_) | (with_reducible refine DT_regionE [0, 1, 2, 4, 5, 6, 7, 8, 9, 10, 11, 12, 17, 26, 32, 39, 62] ?_; simp -dsimp [hJl, hs]) | (refine DT_cond rfl (fun h => ?_) (fun h => ?_) <;> (try simp only [nrm] at h) <;> (try exact Bool.noConfusion h))
      all_goals try simp -dsimp [hJl, hs]
      all_goals try clear hs
      all_goals simp
  · rw [if_neg h0]
    simp only [isv, iv, List.map_nil] at c1
    have hs : True := trivial
    repeat' first | (with_reducible first | refine q01 ?_ | refine q02 ?_ | refine q11 ?_ | refine q17 ?_) | (with_reducible refine At.fn_ret (by simp -dsimp [h0, hs]; exact rfl) ?_) | (refine CallE.pure (c1) ?_; try simp -dsimp [h0, hs]) | (with_reducible refine DT_regionE [0, 1, 2, 4, 5, 6, 7, 8, 9, 10, 11, 12, 17, 26, 32, 39, 62] ?_; simp -dsimp [h0, hs]) | (refine DT_cond rfl (fun h => ?_) (fun h => ?_) <;> (try simp only [nrm] at h) <;> (try exact Bool.noConfusion h))
    all_goals try simp -dsimp [h0, hs]
    all_goals try clear hs
    all_goals simp [h0]
end Go.Proofs
namespace Go.Proofs
open Go Go.Ab
set_option linter.unusedSimpArgs false
variable {G : Nat → Option (List IC)}
theorem twin3N_c (n : Notes) (hs : SmallN n) : DCall Tryz.prog G 19 [notesv n] [] (fun d o => d = .agg [.im (.sl (n.reg.map encIssue)), .vec 4 1 0 n.notes.length] ∧ o = [.row [.im (.sl (n.reg.map encIssue)), .im (.sl (n.notes.map encNote))], .vec 0 [] 0 true, .vec 0 [] 0 true, .row [.im (.sl (n.reg.map encIssue)), .vec 4 1 0 n.notes.length], .vec 10 (ims (n.notes.map encNote)) 1 false]) := by
  refine DCall_intro Tryz.func19 rfl Tryz.ntmps19 (by simp) rfl ?_
  have c1 := twin_c (G := G) n.reg hs.1
  have hl := hs.2
  have hs : True := trivial
  repeat' first | (with_reducible first | refine q01 ?_ | refine q11 ?_ | refine q17 ?_ | refine And.intro (by omega) ?_) | (with_reducible refine At.fn_ret (by simp -dsimp [hs]; exact rfl) ?_) | (refine QCall_pure (c1) ?_; try simp -dsimp [hs]) | (refine DT_regionZ (id := 1) (nt := 11) [0, 1, 2, 4, 5, 3, 6, 7, 8] 5 [([0, 1, 2, 3, 4], [0, 1, 2])] [0, 1, 2] mixed rfl (by kernel_rfl) (by kernel_rfl) ?_; simp -dsimp [hs]) | (with_reducible refine DT_regionE [0, 1, 2] ?_; simp -dsimp [hs]) | with_reducible refine And.intro ?_ ?_
  all_goals try simp -dsimp [hs]
  all_goals try clear hs
theorem cloneNN_c (l : List Note) (hl : l.length < 1000) : DCall Tryz.prog G 66 [.one (.im (.sl (l.map encNote)))] [] (fun d o => ∃ i : Nat × Bool, (i.2 = true → l = []) ∧ d = .one (.vec 1 i.1 0 l.length) ∧ o = [.vec 10 [] 0 true, .vec 10 (ims (l.map encNote)) i.1 i.2]) := by
  refine DCall_intro Tryz.func66 rfl Tryz.ntmps66 (by simp) rfl ?_
  have hs : True := trivial
  repeat' first | (with_reducible first | refine q01 ?_ | refine q02 ?_ | refine q11 ?_ | refine q14 ?_ | refine q17 ?_ | refine And.intro (by omega) ?_) | (with_reducible refine At.fn_ret (by simp -dsimp [hs]; exact rfl) ?_) | (with_reducible refine DT_regionE [0, 2, 4] ?_; simp -dsimp [hs]) | (refine DT_cond rfl (fun h => ?_) (fun h => ?_) <;> (try simp only [nrm] at h) <;> (try exact Bool.noConfusion h)) | (with_reducible refine imp_At (fun h => ?_); (try simp only [List.map_eq_nil_iff] at h); (try subst h); try simp -dsimp [hs]) | with_reducible refine And.intro ?_ ?_
  all_goals try simp -dsimp [hs]
  all_goals try clear hs
def sgn (x : Note) (v : Int) : Note := { x with signed := v }
/-- A note gets another mark. -/
def setSg (l : List Note) (i : Nat) (v : Int) : List Note := match l[i]? with
  | some x => l.set i (sgn x v)
  | none => l
theorem setSg_len (l : List Note) (i : Nat) (v : Int) : (setSg l i v).length = l.length := by
  unfold setSg; split <;> simp
def settleI (n : Notes) (a : Int) : Nat := (fidx (fun x => decide (x.number = a)) n.notes).toNat
def settleL (n : Notes) (a : Int) (b : Bool) : List Note := setSg n.notes (settleI n a) (if b = true then 2 else 0)
def settleE (n : Notes) (a : Int) : Int := if notesE n ≠ 0 then notesE n else if a ∈ openL n.notes then 0 else 6
def settleN (n : Notes) (a : Int) (b : Bool) : Notes := if settleE n a = 0 then ⟨n.reg, settleL n a b⟩ else ⟨[], []⟩
theorem open_mem {l : List Note} {a : Int} : a ∈ openL l ↔ ∃ (k : Nat) (x : Note), l[k]? = some x ∧ x.number = a ∧ x.signed = 1 := by
  unfold openL
  simp only [List.mem_map, List.mem_filter, decide_eq_true_eq]
  constructor
  · rintro ⟨x, ⟨h1, h2⟩, h3⟩
    obtain ⟨k, hk⟩ := List.mem_iff_getElem?.1 h1
    exact ⟨k, x, hk, h3, h2⟩
  · rintro ⟨k, x, h1, h2, h3⟩
    exact ⟨x, ⟨List.mem_of_getElem? h1, h3⟩, h2⟩
theorem fidx_num {n : Notes} (hok : allOk n) {k : Nat} {x : Note} (hx : n.notes[k]? = some x) : fidx (fun y => decide (y.number = x.number)) n.notes = k := by
  refine fidx_yes hx (by simp) fun j y hj hy => ?_
  have hnd := nums_nodup hok
  rw [List.nodup_iff_pairwise_ne, List.pairwise_iff_getElem] at hnd
  obtain ⟨hk, hk'⟩ := List.getElem?_eq_some_iff.1 hx
  obtain ⟨hj', hj''⟩ := List.getElem?_eq_some_iff.1 hy
  have := hnd j k (by simpa using hj') (by simpa using hk) hj
  simp only [List.getElem_map, hk', hj''] at this
  simpa using this
theorem settleI_at {n : Notes} (hok : allOk n) {k : Nat} {x : Note} (hx : n.notes[k]? = some x) : settleI n x.number = k := by
  unfold settleI; rw [fidx_num hok hx]; rfl
theorem frzSet (l : List Note) (k : Nat) (y : Note) (m : Nat) (O : List DObj) : mapO (mapO (frz 19 m O)) (List.take l.length ((ims (l.map encNote)).set k ((encNote y).map .im))) = some ((l.set k y).map encNote) := by
  rw [List.take_of_length_le (by simp), ← imsSet, ← List.map_set]
  exact mapO_ims _ _ _ _
set_option maxHeartbeats 4000000 in
theorem rSettle_c (n : Notes) (a : Int) (b : Bool) (hsn : SmallN n) (hs : NSm n) (objs : List DObj) : DCall Tryz.prog G 27 [notesv n, iv a, bv b] objs (fun rr objs' => rr = .tup [notesv (settleN n a b), iv (settleE n a)] ∧ objs' = objs) := by
  refine DCall.frame ?_ (by simp) (by simp) objs
  refine DCall_intro Tryz.func27 rfl Tryz.ntmps27 (by simp) rfl ?_
  try simp only [notesv, iv, bv]
  have c1 := check3_c (G := G) n hs
  have c2 := twin3N_c (G := G) n hsn
  simp only [iv] at c1
  by_cases h0 : notesE n = 0
  · rw [h0] at c1
    have hnk := notes_ok h0
    have hn12 := hnk.2.1
    have hs : True := trivial
    repeat' first | (with_reducible first | refine q01 ?_ | refine q11 ?_ | refine q12 ?_ | refine q14 ?_) | (refine CallE.pure (c1) ?_; try simp -dsimp [hs]) | (refine CallE.embed [] (c2) ?_ ?_ ?_ ?_ ?_ ?_; (focus (simp [emb]; done)); (focus (simp; done)); (focus (simp; done)); (focus (simp; done)); (focus (refine emb_all ?_; simp [emb, embAll]; done)); try simp -dsimp [mergeO, emb, hs]) | (with_reducible refine DT_regionE [0, 1, 2, 3, 6, 7, 8, 9, 10, 14, 23, 42, 48] ?_; simp -dsimp [hs]) | (refine DT_cond rfl (fun h => ?_) (fun h => ?_) <;> (try simp only [nrm] at h) <;> (try exact Bool.noConfusion h))
    all_goals try simp -dsimp [hs]
    all_goals try clear hs
    refine DT_loop (ι := { k : Nat // k ≤ n.notes.length ∧ ∀ (j : Nat) (x : Note), j < k → n.notes[j]? = some x → ¬ (x.number = a ∧ x.signed = 1) }) (fun p => ⟨56, [(1, iv a), (2, bv b), (6, .one (.ptr 3 0)), (7, iv 0), (9, .one (.ptr 11 0)), (10, iv (p.1 : Int))], [.row ((encNotes n).map .im), .vec 0 [] 0 true, .vec 0 [] 0 true, .row [.vec 1 0 0 0, .vec 2 0 0 0], .row ((encNotes n).map .im), .vec 0 [] 0 true, .vec 0 [] 0 true, .row [.im (.sl (n.reg.map encIssue)), .vec 8 1 0 n.notes.length], .vec 10 (ims (n.notes.map encNote)) 1 false, .vec 0 [] 0 true, .vec 0 [] 0 true, .row [.im (.sl (n.reg.map encIssue)), .vec 8 1 0 n.notes.length]]⟩) (fun p => n.notes.length - p.1) ⟨0, by simp, fun j x h => by omega⟩ (Weak.of_keep [1,2,6,7,9,10] (by simp)) ?_
    rintro ⟨k, hk, hno⟩
    simp only [iv, bv]
    by_cases hlt : k < n.notes.length
    · have hw : IntKind.i64.wrap ((k : Int) + 1) = ((k + 1 : Nat) : Int) := i64w (by omega) (by omega)
      have hxs : n.notes[k]? = some n.notes[k] := List.getElem?_eq_getElem hlt
      generalize hx : n.notes[k] = x at *
      have hnext : ¬ (x.number = a ∧ x.signed = 1) → ∀ (j : Nat) (y : Note), j < k + 1 → n.notes[j]? = some y → ¬ (y.number = a ∧ y.signed = 1) := fun h j y hj hy => by
        by_cases e : j = k
        · subst e; rw [hxs] at hy; cases hy; exact h
        · exact hno j y (by omega) hy
      by_cases hn1 : x.number = a
      · by_cases hn2 : x.signed = 1
        · have hE : settleE n a = 0 := by unfold settleE; rw [if_neg (by simp [h0]), if_pos (open_mem.2 ⟨k, x, hxs, hn1, hn2⟩)]
          have hI : settleI n a = k := by rw [← hn1]; exact settleI_at hnk.2.2.1 hxs
          have hL : settleN n a b = ⟨n.reg, n.notes.set k (sgn x (if b = true then 2 else 0))⟩ := by
            unfold settleN settleL setSg; rw [if_pos hE, hI, hxs]
          rw [hE, hL]
          cases b
          · have hz := frzSet n.notes k (sgn x 0)
            simp [sgn, hn1] at hz
            have hs : True := trivial
            repeat' first | (with_reducible first | refine q01 ?_ | refine q02 ?_ | refine q05 ?_ | refine q11 ?_ | refine q12 ?_ | refine q14 ?_ | refine q17 ?_) | (with_reducible refine At.fn_ret (by simp -dsimp [hx, hlt, hxs, hn1, hn2, hs]; exact rfl) ?_) | (with_reducible refine DT_regionE [0, 1, 2, 3, 6, 7, 8, 9, 10, 14, 23, 42, 48] ?_; simp -dsimp [hx, hlt, hxs, hn1, hn2, hs]) | (refine DT_cond rfl (fun h => ?_) (fun h => ?_) <;> (try simp only [nrm] at h) <;> (try exact Bool.noConfusion h))
            all_goals try simp -dsimp [hx, hlt, hxs, hn1, hn2, hs]
            all_goals try clear hs
            all_goals simp [hz, sgn, hn1]
          · have hz := frzSet n.notes k (sgn x 2)
            simp [sgn, hn1] at hz
            have hs : True := trivial
            repeat' first | (with_reducible first | refine q01 ?_ | refine q02 ?_ | refine q05 ?_ | refine q11 ?_ | refine q12 ?_ | refine q14 ?_ | refine q17 ?_) | (with_reducible refine At.fn_ret (by simp -dsimp [hx, hlt, hxs, hn1, hn2, hs]; exact rfl) ?_) | (with_reducible refine DT_regionE [0, 1, 2, 3, 6, 7, 8, 9, 10, 14, 23, 42, 48] ?_; simp -dsimp [hx, hlt, hxs, hn1, hn2, hs]) | (refine DT_cond rfl (fun h => ?_) (fun h => ?_) <;> (try simp only [nrm] at h) <;> (try exact Bool.noConfusion h))
            all_goals try simp -dsimp [hx, hlt, hxs, hn1, hn2, hs]
            all_goals try clear hs
            all_goals simp [hz, sgn, hn1]
        · have hs : True := trivial
          repeat' first | (with_reducible first | refine q01 ?_ | refine q03 ?_ | refine q06 ?_ | refine q11 ?_ | refine q12 ?_ | refine q14 ?_ | refine q16 ?_) | (with_reducible refine DT_regionE [0, 1, 2, 3, 6, 7, 8, 9, 10, 14, 23, 42, 48] ?_; simp -dsimp [hx, hlt, hxs, hn1, hn2, hw, hs]) | (refine DT_cond rfl (fun h => ?_) (fun h => ?_) <;> (try simp only [nrm] at h) <;> (try exact Bool.noConfusion h))
          all_goals try simp -dsimp [hx, hlt, hxs, hn1, hn2, hw, hs]
          all_goals try clear hs
          all_goals exact At.round ⟨k + 1, by omega, hnext (by simp [hn2])⟩ (by simp only; omega) (Weak.of_keep [1,2,6,7,9,10] (by simp))
      · have hs : True := trivial
        repeat' first | (with_reducible first | refine q01 ?_ | refine q03 ?_ | refine q06 ?_ | refine q11 ?_ | refine q12 ?_ | refine q14 ?_ | refine q16 ?_) | (with_reducible refine DT_regionE [0, 1, 2, 3, 6, 7, 8, 9, 10, 14, 23, 42, 48] ?_; simp -dsimp [hx, hlt, hxs, hn1, hw, hs]) | (refine DT_cond rfl (fun h => ?_) (fun h => ?_) <;> (try simp only [nrm] at h) <;> (try exact Bool.noConfusion h))
        all_goals try simp -dsimp [hx, hlt, hxs, hn1, hw, hs]
        all_goals try clear hs
        all_goals exact At.round ⟨k + 1, by omega, hnext (by simp [hn1])⟩ (by simp only; omega) (Weak.of_keep [1,2,6,7,9,10] (by simp))
    · have hE : settleE n a = 6 := by
        unfold settleE
        rw [if_neg (by simp [h0]), if_neg]
        intro h
        obtain ⟨j, x, h1, h2, h3⟩ := open_mem.1 h
        exact hno j x (by have := lt_of_getElem? h1; omega) h1 ⟨h2, h3⟩
      have hN : settleN n a b = ⟨[], []⟩ := by unfold settleN; rw [if_neg (by rw [hE]; decide)]
      rw [hN, hE]
      have hlti : ¬ ((k : Int) < n.notes.length) := by omega
      have hs : True := trivial
      repeat' first | (with_reducible first | refine q01 ?_ | refine q03 ?_ | refine q06 ?_ | refine q11 ?_ | refine q16 ?_ | refine q17 ?_) | (with_reducible refine At.fn_ret (by simp -dsimp [hlt, hlti, hs]; exact rfl) ?_) | (with_reducible refine DT_regionE [0, 1, 2, 3, 6, 7, 8, 9, 10, 14, 23, 42, 48] ?_; simp -dsimp [hlt, hlti, hs]) | (refine DT_cond rfl (fun h => ?_) (fun h => ?_) <;> (try simp only [nrm] at h) <;> (try exact Bool.noConfusion h))
      all_goals try simp -dsimp [hlt, hlti, hs]
      all_goals try clear hs
      all_goals simp
  · have hE : settleE n a = notesE n := by unfold settleE; rw [if_pos h0]
    have hN : settleN n a b = ⟨[], []⟩ := by unfold settleN; rw [if_neg (by rw [hE]; exact h0)]
    rw [hN, hE]
    have hs : True := trivial
    repeat' first | (with_reducible first | refine q01 ?_ | refine q02 ?_ | refine q11 ?_ | refine q17 ?_) | (with_reducible refine At.fn_ret (by simp -dsimp [h0, hs]; exact rfl) ?_) | (refine CallE.pure (c1) ?_; try simp -dsimp [h0, hs]) | (with_reducible refine DT_regionE [0, 1, 2, 3, 6, 7, 8, 9, 10, 14, 23, 42, 48] ?_; simp -dsimp [h0, hs]) | (refine DT_cond rfl (fun h => ?_) (fun h => ?_) <;> (try simp only [nrm] at h) <;> (try exact Bool.noConfusion h))
    all_goals try simp -dsimp [h0, hs]
    all_goals try clear hs
    all_goals simp
end Go.Proofs
namespace Go.Proofs
open Go Go.Ab
set_option linter.unusedSimpArgs false
variable {G : Nat → Option (List IC)}
theorem nSettleE_c (n : Notes) (a : Int) (b : Bool) (hG : sheetG G) (hN : noteG G) (hS : SortOk G) (hs : NSm n) (h0 : settleE n a ≠ 0) (objs : List DObj) : DCall Tryz.prog G 26 [notesv n, iv a, bv b] objs (fun rr objs' => rr = .tup [notesv ⟨[], []⟩, iv (settleE n a)] ∧ objs' = objs) := by
  refine DCall.frame ?_ (by simp) (by simp) objs
  refine DCall_intro Tryz.func26 rfl Tryz.ntmps26 (by simp) rfl ?_
  try simp only [notesv, iv, bv]
  have c1 := opened_c n hG hN hS hs
  simp only [iv, fileR] at c1
  by_cases hE : notesE n = 0
  · rw [if_pos hE] at c1
    have hnk := notes_ok hE
    have ho : ¬ a ∈ isort (openL n.notes) := fun h => h0 (by unfold settleE; rw [if_neg (by simp [hE]), if_pos (isort_mem.1 h)])
    have hs6 : settleE n a = 6 := by unfold settleE; rw [if_neg (by simp [hE]), if_neg fun h => ho (isort_mem.2 h)]
    have c2 := contains_c (G := G) (isort (openL n.notes)) a (by rw [isortL]; omega)
    rw [decide_eq_false ho] at c2
    rw [hE] at c1
    rw [hs6]
    simp only [isv, iv, bv, fileI] at c1 c2
    have hs : True := trivial
    repeat' first | (with_reducible first | refine q01 ?_ | refine q02 ?_ | refine q11 ?_ | refine q14 ?_ | refine q17 ?_) | (with_reducible refine At.fn_ret (by simp -dsimp [ho, hs]; exact rfl) ?_) | (refine CallE.pure (c1) ?_; try simp -dsimp [ho, hs]) | (refine QCall_pure (c2) ?_; try simp -dsimp [ho, hs]) | (refine DT_regionM (id := 4) (nt := 76) 7 [0, 1, 2, 3, 4, 6, 7, 8, 9, 10, 12, 13, 20, 29, 37, 38, 39, 40, 69] mixed rfl (by kernel_rfl) ?_; simp -dsimp [ho, hs]) | (with_reducible refine DT_regionE [0, 1, 2, 3, 4, 6, 7, 8, 9, 10, 12, 13, 20, 29, 37, 38, 39, 40, 69] ?_; simp -dsimp [ho, hs]) | (refine DT_cond rfl (fun h => ?_) (fun h => ?_) <;> (try simp only [nrm] at h) <;> (try exact Bool.noConfusion h))
    all_goals try simp -dsimp [ho, hs]
    all_goals try clear hs
    all_goals simp
  · rw [if_neg hE] at c1
    have hs6 : settleE n a = notesE n := by unfold settleE; rw [if_pos hE]
    rw [hs6]
    have hs : True := trivial
    repeat' first | (with_reducible first | refine q01 ?_ | refine q02 ?_ | refine q11 ?_ | refine q17 ?_) | (with_reducible refine At.fn_ret (by simp -dsimp [hE, hs]; exact rfl) ?_) | (refine CallE.pure (c1) ?_; try simp -dsimp [hE, hs]) | (with_reducible refine DT_regionE [0, 1, 2, 3, 4, 6, 7, 8, 9, 10, 12, 13, 20, 29, 37, 38, 39, 40, 69] ?_; simp -dsimp [hE, hs]) | (refine DT_cond rfl (fun h => ?_) (fun h => ?_) <;> (try simp only [nrm] at h) <;> (try exact Bool.noConfusion h))
    all_goals try simp -dsimp [hE, hs]
    all_goals try clear hs
    all_goals simp
theorem settle1_c (a : Int) (y : Note) (objs : List DObj) : DCall Tryz.prog G 70 [notev y, .one (.im (.ip [rI a]))] objs (fun d o => d = bv (decide (y.number = a)) ∧ o = objs) := by
  refine DCall.frame ?_ (by simp) (by simp) objs
  refine DCall_intro Tryz.func70 rfl Tryz.ntmps70 (by simp) rfl ?_
  have hs : True := trivial
  repeat' first | (with_reducible first | refine q01 ?_ | refine q11 ?_ | refine q17 ?_) | (with_reducible refine At.fn_ret (by simp -dsimp [hs]; exact rfl) ?_) | (with_reducible refine DT_regionE [0, 1, 2, 3] ?_; simp -dsimp [hs])
  all_goals try simp -dsimp [hs]
  all_goals try clear hs
def SetP (n : Notes) (a : Int) (b : Bool) (d : DV) (o : List DObj) : Prop := ∃ i : Nat × Nat × Nat × Bool, True ∧ d = .tup [.agg [.vec 7 i.2.1 0 n.reg.length, .vec 6 i.1 0 n.notes.length], iv 0] ∧ o = [.row ((encNotes n).map .im), .row [.im (rI a)], .vec 0 [] 0 true, .vec 0 [] 0 true, .row [.vec 7 i.2.1 0 n.reg.length, .vec 6 i.1 0 n.notes.length], .vec 10 [] 0 true, .vec 10 (ims ((settleL n a b).map encNote)) i.1 false, .vec i.2.2.1 (ims (n.reg.map encIssue)) i.2.1 i.2.2.2, .vec 0 [] 0 true, .vec 0 [] 0 true, .vec 0 [] 0 true, .row [.vec 7 i.2.1 0 n.reg.length, .vec 6 i.1 0 n.notes.length]]
set_option maxHeartbeats 4000000 in
theorem nSettleS_c (n : Notes) (a : Int) (b : Bool) (hG : sheetG G) (hN : noteG G) (hS : SortOk G) (hsn : SmallN n) (hs : NSm n) (h0 : settleE n a = 0) : DCall Tryz.prog G 26 [notesv n, iv a, bv b] [] (SetP n a b) := by
  refine DCall_intro Tryz.func26 rfl Tryz.ntmps26 (by simp) rfl ?_
  have c1 := opened_c n hG hN hS hs
  have hE : notesE n = 0 := by
    unfold settleE at h0
    split at h0
    · contradiction
    · simpa using ‹¬ notesE n ≠ 0›
  have hnk := notes_ok hE
  have ho : a ∈ openL n.notes := by
    unfold settleE at h0
    rw [if_neg (by simp [hE])] at h0
    split at h0
    · assumption
    · cases h0
  have c2 := contains_c (G := G) (isort (openL n.notes)) a (by rw [isortL]; omega)
  rw [decide_eq_true (isort_mem.2 ho)] at c2
  have c3 := cloneNN_c (G := G) n.notes (by omega)
  simp only [iv, isv, bv, fileR, if_pos hE, fileI] at c1 c2 c3
  rw [hE] at c1
  simp only [iv]
  obtain ⟨k0, x0, hx0, hn0, hg0⟩ := open_mem.1 ho
  have hk0 := lt_of_getElem? hx0
  have hx0e : n.notes[k0] = x0 := (List.getElem?_eq_some_iff.1 hx0).2
  have hne : n.notes ≠ [] := fun e => by rw [e] at hk0; simp at hk0
  have c5 := fun objs => DCall.fnArg2 (cs := [.ip [rI a]]) (indexFunc_note (G := G) n.notes (fun y => decide (y.number = a)) 70 [.im (.ip [rI a])] objs (by simp) (fun x _ => settle1_c a x objs) (by omega))
  rw [show fidx (fun y => decide (y.number = a)) n.notes = (k0 : Int) by rw [← hn0]; exact fidx_num hnk.2.2.1 hx0] at c5
  have hL : settleL n a b = n.notes.set k0 (sgn x0 (if b = true then 2 else 0)) := by
    unfold settleL setSg; rw [show settleI n a = k0 by rw [← hn0]; exact settleI_at hnk.2.2.1 hx0, hx0]
  have hN60 : n.reg.length ≤ 80 := by have := hs.1.1; omega
  have hit : ∀ x ∈ n.reg, x.items.length < 1000000 ∧ x.dims.length < 1000000 := fun x hx => by have := hs.1.2 x hx; omega
  clear hS hG hN
  have hs : True := trivial
  repeat' first | (with_reducible first | refine q01 ?_ | refine q11 ?_ | refine q12 ?_ | refine q14 ?_) | (refine CallE.pure (c1) ?_; try simp -dsimp [hs]) | (refine QCall_pure (c2) ?_; try simp -dsimp [hs]) | (refine CallE.embed_ex [] (c3) ?_ ?_ ?_ ?_ ?_ ?_; (focus (simp [emb]; done)); (focus (simp; done)); (focus (simp; done)); (focus (simp; done)); (focus (refine emb_all ?_; simp [emb, embAll]; done)); intro mm hmm; try simp -dsimp [mergeO, emb, hs]) | (refine DT_regionM (id := 4) (nt := 76) 7 [0, 1, 2, 3, 4, 6, 7, 8, 9, 10, 12, 13, 20, 29, 37, 38, 39, 40, 69] mixed rfl (by kernel_rfl) ?_; simp -dsimp [hs]) | (with_reducible refine DT_regionN (id := 6) (nt := 76) [0, 1, 2, 3, 4, 6, 7, 8, 9, 10, 12, 13, 20, 29, 37, 38, 39, 40, 69] rfl ?_; simp -dsimp [hs]) | (with_reducible refine DT_regionE [0, 1, 2, 3, 4, 6, 7, 8, 9, 10, 12, 13, 20, 29, 37, 38, 39, 40, 69] ?_; simp -dsimp [hs]) | (refine DT_cond rfl (fun h => ?_) (fun h => ?_) <;> (try simp only [nrm] at h) <;> (try exact Bool.noConfusion h))
  all_goals try simp -dsimp [hs]
  all_goals try clear hs
  obtain ⟨g6, nl6⟩ := mm
  obtain rfl : nl6 = false := by cases nl6 with
    | false => rfl
    | true => exact absurd (hmm rfl) hne
  refine DT_loop (ι := { p : Nat × Nat × Nat × Bool // p.1 ≤ n.reg.length ∧ ((p.2.2.1 = 5 ∧ p.2.2.2 = false) ∨ (p.2.2.1 = 0 ∧ p.2.2.2 = true ∧ p.1 = 0)) }) (fun p => ⟨76, [(2, bv b), (4, .one (.ptr 1 0)), (6, .one (.ptr 4 0)), (7, iv 0), (10, .one (.ptr 11 0)), (37, .one (.im (.sl (n.reg.map encIssue)))), (38, iv (n.reg.length : Int)), (39, iv (p.1.1 : Int))], [.row ((encNotes n).map .im), .row [.im (rI a)], .vec 0 [] 0 true, .vec 0 [] 0 true, .row [.vec 2 0 0 0, .vec 3 0 0 0], .vec 10 [] 0 true, .vec 10 (ims (n.notes.map encNote)) g6 false, .vec p.1.2.2.1 (ims ((n.reg.take p.1.1).map encIssue)) p.1.2.1 p.1.2.2.2, .vec 0 [] 0 true, .vec 0 [] 0 true, .vec 0 [] 0 true, .row [.vec 7 p.1.2.1 0 p.1.1, .vec 6 g6 0 n.notes.length]]⟩) (fun p => n.reg.length - p.1.1) ⟨(0, 0, 0, true), by simp⟩ (Weak.of_keep [2,4,6,7,10,37,38,39] (by simp)) ?_
  rintro ⟨⟨k, g, sz, nl⟩, hk, hz⟩
  simp only at hk hz
  simp only [iv, bv]
  by_cases hlt : k < n.reg.length
  · have hw : IntKind.i64.wrap ((k : Int) + 1) = ((k + 1 : Nat) : Int) := i64w (by omega) (by omega)
    have hst : n.reg.take (k + 1) = n.reg.take k ++ [n.reg[k]] := List.take_succ_eq_append_getElem hlt
    have hkl : (n.reg.take k).length = k := by simp; omega
    have hxs : n.reg[k]? = some n.reg[k] := List.getElem?_eq_getElem hlt
    have hix := hit n.reg[k] (List.getElem_mem hlt)
    generalize hx : n.reg[k] = x at *
    have c6 := clone_itm (G := G) x.items hix.1
    have c7 := clone_dim (G := G) x.dims hix.2
    have hm : (n.reg.take (k + 1)).map encIssue = (n.reg.take k).map encIssue ++ [encIssue x] := by rw [hst]; simp
    have hml : ((n.reg.take k).map encIssue).length = k := by rw [List.length_map]; exact hkl
    generalize (n.reg.take k).map encIssue = L at *
    rcases hz with ⟨rfl, rfl⟩ | ⟨rfl, rfl, rfl⟩
    · subst hml
      have hs : True := trivial
      repeat' first | (with_reducible first | refine q01 ?_ | refine q04 ?_ | refine q11 ?_ | refine q12 ?_ | refine q14 ?_ | refine And.intro (by omega) ?_) | (refine QCall_pure (c6) ?_; try simp -dsimp [hx, hlt, hxs, hw, hs]) | (refine QCall_pure (c7) ?_; try simp -dsimp [hx, hlt, hxs, hw, hs]) | (refine DT_regionM (id := 10) (nt := 76) 7 [0, 1, 2, 3, 4, 6, 7, 8, 9, 10, 12, 13, 20, 29, 37, 38, 39, 40, 69] mixed rfl (by kernel_rfl) ?_; simp -dsimp [hx, hlt, hxs, hw, hs]) | (with_reducible refine DT_regionE [0, 1, 2, 3, 4, 6, 7, 8, 9, 10, 12, 13, 20, 29, 37, 38, 39, 40, 69] ?_; simp -dsimp [hx, hlt, hxs, hw, hs]) | (refine DT_cond rfl (fun h => ?_) (fun h => ?_) <;> (try simp only [nrm] at h) <;> (try exact Bool.noConfusion h))
      all_goals try simp -dsimp [hx, hlt, hxs, hw, hs]
      all_goals try clear hs
      all_goals exact At.round ⟨(L.length + 1, g + 1, 5, false), by omega, .inl ⟨rfl, rfl⟩⟩ (by simp only; omega) (Weak.of_drop [2,4,6,7,10,37,38,39] 12 (by simp) (by simp) (by simp [hm, show List.take L.length (ims L) = ims L from List.take_of_length_le (by simp)]))
    · obtain rfl := List.eq_nil_of_length_eq_zero hml
      have hw1 : IntKind.i64.wrap 1 = 1 := i64w (by omega) (by omega)
      have hs : True := trivial
      repeat' first | (with_reducible first | refine q01 ?_ | refine q04 ?_ | refine q11 ?_ | refine q12 ?_ | refine q14 ?_) | (refine QCall_pure (c6) ?_; try simp -dsimp [hx, hlt, hxs, hw, hw1, hs]) | (refine QCall_pure (c7) ?_; try simp -dsimp [hx, hlt, hxs, hw, hw1, hs]) | (refine DT_regionM (id := 10) (nt := 76) 7 [0, 1, 2, 3, 4, 6, 7, 8, 9, 10, 12, 13, 20, 29, 37, 38, 39, 40, 69] mixed rfl (by kernel_rfl) ?_; simp -dsimp [hx, hlt, hxs, hw, hw1, hs]) | (with_reducible refine DT_regionE [0, 1, 2, 3, 4, 6, 7, 8, 9, 10, 12, 13, 20, 29, 37, 38, 39, 40, 69] ?_; simp -dsimp [hx, hlt, hxs, hw, hw1, hs]) | (refine DT_cond rfl (fun h => ?_) (fun h => ?_) <;> (try simp only [nrm] at h) <;> (try exact Bool.noConfusion h))
      all_goals try simp -dsimp [hx, hlt, hxs, hw, hw1, hs]
      all_goals try clear hs
      all_goals exact At.round ⟨(1, g + 1, 5, false), by omega, .inl ⟨rfl, rfl⟩⟩ (by simp only; omega) (Weak.of_drop [2,4,6,7,10,37,38,39] 12 (by simp) (by simp) (by simp [hm, hw1]))
  · obtain rfl : k = n.reg.length := by omega
    rw [List.take_length]
    cases b
    · have hs : True := trivial
      repeat' first | (with_reducible first | refine q01 ?_ | refine q03 ?_ | refine q06 ?_ | refine q11 ?_ | refine q14 ?_ | refine q16 ?_ | refine q17 ?_) | (with_reducible refine At.fn_ret (by simp -dsimp [hlt, hk0, hx0, hx0e, hs]; exact rfl) ?_) | (refine CallE.thaw (c5) ?_ ?_ ?_; (focus (simp; done)); (focus (simp; done)); try simp -dsimp [hlt, hk0, hx0, hx0e, hs]) | (with_reducible refine DT_regionE [0, 1, 2, 3, 4, 6, 7, 8, 9, 10, 12, 13, 20, 29, 37, 38, 39, 40, 69] ?_; simp -dsimp [hlt, hk0, hx0, hx0e, hs]) | (refine DT_cond rfl (fun h => ?_) (fun h => ?_) <;> (try simp only [nrm] at h) <;> (try exact Bool.noConfusion h))
      all_goals try simp -dsimp [hlt, hk0, hx0, hx0e, hs]
      all_goals try clear hs
      all_goals exact ⟨(g6, g, sz, nl), trivial, rfl, by
          have hV : ims ((settleL n a false).map encNote) = (ims (n.notes.map encNote)).set k0 ((encNote (sgn x0 0)).map .im) := by rw [hL, List.map_set, imsSet]; rfl
          rw [hV]; rfl⟩
    · have hs : True := trivial
      repeat' first | (with_reducible first | refine q01 ?_ | refine q03 ?_ | refine q06 ?_ | refine q11 ?_ | refine q16 ?_ | refine q17 ?_) | (with_reducible refine At.fn_ret (by simp -dsimp [hlt, hk0, hx0, hx0e, hs]; exact rfl) ?_) | (refine CallE.thaw (c5) ?_ ?_ ?_; (focus (simp; done)); (focus (simp; done)); try simp -dsimp [hlt, hk0, hx0, hx0e, hs]) | (with_reducible refine DT_regionE [0, 1, 2, 3, 4, 6, 7, 8, 9, 10, 12, 13, 20, 29, 37, 38, 39, 40, 69] ?_; simp -dsimp [hlt, hk0, hx0, hx0e, hs]) | (refine DT_cond rfl (fun h => ?_) (fun h => ?_) <;> (try simp only [nrm] at h) <;> (try exact Bool.noConfusion h))
      all_goals try simp -dsimp [hlt, hk0, hx0, hx0e, hs]
      all_goals try clear hs
      all_goals exact ⟨(g6, g, sz, nl), trivial, rfl, by
          have hV : ims ((settleL n a true).map encNote) = (ims (n.notes.map encNote)).set k0 ((encNote (sgn x0 2)).map .im) := by rw [hL, List.map_set, imsSet]; rfl
          rw [hV]; rfl⟩
end Go.Proofs
