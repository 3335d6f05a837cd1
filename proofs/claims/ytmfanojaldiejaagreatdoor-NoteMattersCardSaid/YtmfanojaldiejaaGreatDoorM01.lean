/- Part 31 of the proofs: laws and walks that hold without conditions beyond those that each theorem names. -/
import Derived.Test.YtmfanojaldiejaaGreatDoorA24
import Derived.Test.YtmfanojaldiejaaGreatDoorA26
import Derived.Test.YtmfanojaldiejaaGreatDoorA27
set_option linter.all false
set_option linter.deprecated false
namespace Go.Proofs
open Go Go.Ab
theorem lettersK_ext {n n' : Notes} {s s' : List Int} {m : Int} (hr : n'.reg = n.reg) (h : ∀ d, letF n' s' d m = letF n s d m) : lettersK n' s' m = lettersK n s m := by
  unfold lettersK
  rw [hr]
  exact List.map_congr_left fun d _ => h d
theorem selN_mem' {N : List Int} {s : Nat} {x : Int} : x ∈ selN N s N.length ↔ ∃ i : Nat, i < N.length ∧ s.testBit i = true ∧ N[i]? = some x := selN_mem (Nat.le_refl _)
theorem bits5 : ∀ s < 32, ∀ i < 5, ∀ j < 5, (s.testBit i = false → (s + 2 ^ i).testBit j = (s.testBit j || decide (j = i))) := by decide +kernel
theorem letsL_get {n : Notes} {m : Int} {O : List Int} {k P : Nat} (h : k < P) : (letsL n m O P)[k]? = some (lettersK n (selN O k O.length) m) := letsL_at h
theorem mat_settle {n : Notes} (hok : allOk n) (h5 : (openL n.notes).length ≤ 5) {i j : Nat} {x : Note} (hx : n.notes[i]? = some x) (ho : x.signed = 1) (hj : (isort (openL n.notes))[j]? = some x.number) (m : Int) :
    (matM (difB (letsL n m (isort (openL n.notes)) (2 ^ (isort (openL n.notes)).length))) (isort (openL n.notes)).length (2 ^ (isort (openL n.notes)).length)).testBit j = true ↔
      ∃ t : List Int, t.Sublist (isort (openL (setSg n.notes i 0))) ∧ lettersK ⟨n.reg, setSg n.notes i 2⟩ t m ≠ lettersK ⟨n.reg, setSg n.notes i 0⟩ t m := by
  have hOs := isort_strict (openL_nodup hok)
  have hO5 : (isort (openL n.notes)).length ≤ 5 := by rw [isort_len]; exact h5
  rw [open_list hok hx (v := 0) (by omega) (by omega)]
  generalize isort (openL n.notes) = O at *
  have hjl := lt_of_getElem? hj
  rw [mat_eq hO5 hjl]
  have hP : 2 ^ O.length ≤ 2 ^ 5 := Nat.pow_le_pow_right (by omega) hO5
  have hinj : ∀ k, O[k]? = some x.number → k = j := fun k hk => by
    have hkl := lt_of_getElem? hk
    rw [List.pairwise_iff_getElem] at hOs
    have e1 := (List.getElem?_eq_some_iff.1 hj).2
    have e2 := (List.getElem?_eq_some_iff.1 hk).2
    rcases Nat.lt_trichotomy k j with h | h | h
    · have := hOs k j hkl hjl h; omega
    · exact h
    · have := hOs j k hjl hkl h; omega
  -- a set without it, and the set with it
  have step : ∀ s, s < 2 ^ O.length → s.testBit j = false → s + 2 ^ j < 2 ^ O.length ∧ x.number ∉ selN O s O.length ∧ ∀ y, y ∈ selN O (s + 2 ^ j) O.length ↔ y ∈ selN O s O.length ∨ y = x.number := fun s hs hb => by
    refine ⟨?_, fun h => ?_, fun y => ?_⟩
    · rw [← (xor_all s (by omega) j (by omega)).1 hb]
      exact Nat.xor_lt_two_pow hs (Nat.pow_lt_pow_right (by omega) hjl)
    · obtain ⟨k, h1, h2, h3⟩ := selN_mem'.1 h
      rw [hinj k h3, hb] at h2; cases h2
    · rw [selN_mem', selN_mem']
      constructor
      · rintro ⟨k, h1, h2, h3⟩
        rw [bits5 s (by omega) j (by omega) k (by omega) hb, Bool.or_eq_true, decide_eq_true_eq] at h2
        rcases h2 with h2 | rfl
        · exact .inl ⟨k, h1, h2, h3⟩
        · rw [hj] at h3; exact .inr (Option.some.inj h3).symm
      · rintro (⟨k, h1, h2, h3⟩ | rfl)
        · exact ⟨k, h1, by rw [bits5 s (by omega) j (by omega) k (by omega) hb, h2]; rfl, h3⟩
        · exact ⟨j, hjl, by rw [bits5 s (by omega) j (by omega) j (by omega) hb]; simp, hj⟩
  have lets : ∀ s, s < 2 ^ O.length → s.testBit j = false → lettersK ⟨n.reg, setSg n.notes i 2⟩ (selN O s O.length) m = lettersK n (selN O (s + 2 ^ j) O.length) m ∧ lettersK ⟨n.reg, setSg n.notes i 0⟩ (selN O s O.length) m = lettersK n (selN O s O.length) m := fun s hs hb => by
    obtain ⟨_, h2, h3⟩ := step s hs hb
    exact ⟨lettersK_ext rfl fun d => letF_yes hok hx h3 d m, lettersK_ext rfl fun d => letF_no hx ho h2 d m⟩
  rw [matR, List.any_eq_true]
  constructor
  · rintro ⟨s, hs, hd⟩
    rw [List.mem_range] at hs
    simp only [Bool.and_eq_true, Bool.not_eq_true', decide_eq_true_eq] at hd
    obtain ⟨hb, hd⟩ := hd
    obtain ⟨h1, h2, h3⟩ := step s hs hb
    obtain ⟨e1, e2⟩ := lets s hs hb
    refine ⟨selN O s O.length, ?_, fun e => hd ?_⟩
    · have h4 : (selN O s O.length).Sublist O := by
        have := selN_sub O s O.length (Nat.le_refl _)
        rwa [List.take_length] at this
      have h5 := h4.filter fun a => decide (a ≠ x.number)
      rwa [List.filter_eq_self.2 fun a h => by simp; rintro rfl; exact h2 h] at h5
    · rw [letsL_get hs, letsL_get h1, ← e1, ← e2, e]
  · rintro ⟨t, ht, hne⟩
    have hts : t.Sublist O := ht.trans List.filter_sublist
    have hxt : x.number ∉ t := fun h => by
      have := ht.subset h
      rw [List.mem_filter] at this
      simpa using this.2
    have := (truths_mem hOs).2 hts
    unfold truthsL trTo at this
    obtain ⟨s, hs, rfl⟩ := List.mem_map.1 this
    rw [List.mem_range] at hs
    have hb : s.testBit j = false := by
      cases h : s.testBit j
      · rfl
      · exact absurd (selN_mem'.2 ⟨j, hjl, h, hj⟩) hxt
    obtain ⟨h1, _, _⟩ := step s hs hb
    obtain ⟨e1, e2⟩ := lets s hs hb
    refine ⟨s, by simpa using hs, ?_⟩
    simp only [Bool.and_eq_true, Bool.not_eq_true', decide_eq_true_eq]
    refine ⟨hb, fun e => hne ?_⟩
    rw [letsL_get hs, letsL_get h1] at e
    rw [e1, e2]; exact (Option.some.inj e).symm
theorem sureTo_congr {n n' : Notes} {m : Int} {O : List Int} : ∀ k, (∀ t ∈ trTo O k, lettersK n t m = lettersK n' t m) → lettersK n [] m = lettersK n' [] m → sureTo n m O k = sureTo n' m O k
  | 0, _, h => h
  | k + 1, h, h0 => by
    rw [sureTo_succ, sureTo_succ, sureTo_congr k (fun t ht => h t (by rw [trTo_succ]; simp [ht])) h0, h _ (by rw [trTo_succ]; simp)]
end Go.Proofs
namespace Go.Proofs
open Go Go.Ab
set_option linter.unusedSimpArgs false
variable {G : Nat → Option (List IC)}
def setN (n : Notes) (i : Nat) (v : Int) : Notes := ⟨n.reg, setSg n.notes i v⟩
theorem setSg_mem {l : List Note} {i : Nat} {v : Int} {y : Note} (h : y ∈ setSg l i v) : ∃ x ∈ l, y = x ∨ y = sgn x v := by
  obtain ⟨j, hj⟩ := List.mem_iff_getElem?.1 h
  obtain ⟨x, h1, h2⟩ := setSg_at hj
  refine ⟨x, List.mem_of_getElem? h1, ?_⟩
  split at h2
  · exact .inr h2
  · exact .inl h2
theorem NKind.set {n : Notes} (hk : NKind n) {i : Nat} {v : Int} (hv : 0 ≤ v ∧ v ≤ 2) : NKind (setN n i v) := by
  refine ⟨hk.1, fun y hy => ?_⟩
  obtain ⟨x, hx, h⟩ := setSg_mem hy
  have := hk.2 x hx
  rcases h with rfl | rfl
  · exact this
  · exact ⟨this.1, this.2.1, by simp [sgn]; omega, by simp [sgn]; omega⟩
theorem RF.set {n : Notes} (R : RF n) (hk : NKind n) {i : Nat} {x : Note} (hx : n.notes[i]? = some x) {v : Int} (hv : 0 ≤ v ∧ v ≤ 2) (h1 : v ≠ 1) : readyB (setN n i v) = true := by
  have hl : (setSg n.notes i v).length = n.notes.length := setSg_len _ _ _
  have h0 : smallNB (setN n i v) = true := by
    unfold smallNB
    rw [Bool.and_eq_true]
    exact ⟨decide_eq_true R.sn.1, decide_eq_true (by show (setSg n.notes i v).length ≤ 16; rw [hl]; exact R.sn.2)⟩
  have h2 : notesE (setN n i v) = 0 := by
    unfold notesE
    rw [if_neg (by simp [setN, R.c]), if_pos]
    refine notesB_iff.2 ⟨by show (setSg n.notes i v).length ≤ 12; rw [hl]; exact R.l, allOk_set R.ok hv i, ?_⟩
    have := open_list R.ok hx hv h1
    rw [← isortL, show (setN n i v).notes = setSg n.notes i v from rfl, this]
    exact Nat.le_trans (List.length_filter_le _ _) R.o5
  simp [readyB, h0, h2]
theorem RF.openAt {n : Notes} (_R : RF n) {j : Nat} (hj : j < (isort (openL n.notes)).length) : ∃ (i : Nat) (x : Note), (idxv (openI n.notes))[j]? = some (i : Int) ∧ n.notes[i]? = some x ∧ (isort (openL n.notes))[j]? = some x.number ∧ x.signed = 1 := by
  have hnu := openI_nums (n := n)
  have hOl : (isort (openL n.notes)).length = (openI n.notes).length := by rw [← hnu, List.length_map]
  have hi : j < (openI n.notes).length := by omega
  obtain ⟨h1, h2⟩ := (openI_to n.notes).lt _ (List.getElem_mem hi)
  refine ⟨(openI n.notes)[j], n.notes[(openI n.notes)[j]], by simp [idxv, hi], List.getElem?_eq_getElem h1, ?_, ?_⟩
  · rw [← hnu, List.getElem?_map, List.getElem?_eq_getElem hi]
    simp [numAt, h1]
  · simpa [opAt, List.getElem?_eq_getElem h1] using h2
theorem RF.settle {n : Notes} (R : RF n) {i : Nat} {x : Note} (hx : n.notes[i]? = some x) (ho : x.signed = 1) (b : Bool) : settleE n x.number = 0 ∧ settleN n x.number b = setN n i (if b = true then 2 else 0) := by
  have hE : settleE n x.number = 0 := by unfold settleE; rw [if_neg (by simp [R.e]), if_pos (open_mem.2 ⟨i, x, hx, rfl, ho⟩)]
  refine ⟨hE, ?_⟩
  unfold settleN settleL setN
  rw [if_pos hE, settleI_at R.ok hx]
end Go.Proofs
namespace Go.Proofs
open Go Go.Ab
set_option linter.unusedSimpArgs false
variable {G : Nat → Option (List IC)}
def difT (n n' : Notes) (M : Int) (T : List (List Int)) (k : Nat) : Bool := (T.take k).any fun t => decide (lettersK n t M ≠ lettersK n' t M)
theorem difT_succ {n n' : Notes} {M : Int} {T : List (List Int)} {k : Nat} (h : k < T.length) : difT n n' M T (k + 1) = (difT n n' M T k || decide (lettersK n T[k] M ≠ lettersK n' T[k] M)) := by
  unfold difT
  rw [List.take_succ_eq_append_getElem h, List.any_append]; simp
theorem selN_has {O : List Int} (hO : O.Pairwise (· < ·)) {s j : Nat} {a : Int} (hj : O[j]? = some a) : decide (a ∈ selN O s O.length) = s.testBit j := by
  rw [Bool.eq_iff_iff, decide_eq_true_eq, selN_mem']
  constructor
  · rintro ⟨k, hk, h1, h2⟩
    have e1 := (List.getElem?_eq_some_iff.1 hj)
    have e2 := (List.getElem?_eq_some_iff.1 h2)
    obtain ⟨l1, e1⟩ := e1
    obtain ⟨l2, e2⟩ := e2
    rw [List.pairwise_iff_getElem] at hO
    rcases Nat.lt_trichotomy k j with h | h | h
    · have := hO k j l2 l1 h; omega
    · subst h; exact h1
    · have := hO j k l1 l2 h; omega
  · intro h
    exact ⟨j, lt_of_getElem? hj, h, hj⟩
set_option maxHeartbeats 8000000 in
theorem noteMatters_c (n : Notes) (m b : Nat) (hG : sheetG G) (hN : noteG G) (hS : SortOk G) (hk : NKind n) (hm : m < 65536) (hb : b < 256) (objs : List DObj) : DCall Tryz.prog G 10 [notesv n, u16v (m : Int), u8V (b : Int)] objs (fun rr objs' => rr = bv true ∧ objs' = objs) := by
  refine DCall.frame ?_ (by simp) (by simp) objs
  refine DCall_intro Tryz.func10 rfl Tryz.ntmps10 (by simp) rfl ?_
  try simp only [notesv]
  have c1 := alive_c hG hN hS
  have c2 := ready_c (G := G) n hk
  cases hq : readyB n
  · rw [hq] at c2
    have hs : True := trivial
    repeat' first | (with_reducible first | refine q01 ?_ | refine q02 ?_ | refine q11 ?_ | refine q17 ?_) | (with_reducible refine At.fn_ret (by simp -dsimp [hs]; exact rfl) ?_) | (refine CallE.pure (c1) ?_; try simp -dsimp [hs]) | (refine CallE.pure (c2) ?_; try simp -dsimp [hs]) | (with_reducible refine DT_regionE [0,1,2,3,6,7,8,9,10,11,12,13,14,15,16,17,19,20,21,22,23,24,25,26,27,35,60,63,110,112,113,114,115,137] ?_; simp -dsimp [hs]) | (refine DT_cond rfl (fun h => ?_) (fun h => ?_) <;> (try simp only [nrm] at h) <;> (try exact Bool.noConfusion h))
    all_goals try simp -dsimp [hs]
    all_goals try clear hs
  · have R := readyRF hk hq
    rw [hq] at c2
    have c3 := machineOf_c (G := G) m hm
    have hM : 1 ≤ ((m % 999 + 1 : Nat) : Int) ∧ ((m % 999 + 1 : Nat) : Int) ≤ 999 := by omega
    generalize ((m % 999 + 1 : Nat) : Int) = M at *
    have hA := R.asked (t := []) (by simp) hM.1 hM.2
    have c4 := nMatters_c n M hG hN hS R.s
    rw [hA, if_pos rfl] at c4
    have c5 := open3_c (G := G) n R.s R.ok
    have hO := isort_strict (openL_nodup R.ok)
    have hO5 := R.o5
    have hJl : (idxv (openI n.notes)).length = (isort (openL n.notes)).length := by rw [← openI_nums]; simp [idxv]
    generalize hs : matM (difB (letsL n M (isort (openL n.notes)) (2 ^ (isort (openL n.notes)).length))) (isort (openL n.notes)).length (2 ^ (isort (openL n.notes)).length) = s at *
    have hsub : (selN (isort (openL n.notes)) s (isort (openL n.notes)).length).Sublist (isort (openL n.notes)) := by
      have := selN_sub (isort (openL n.notes)) s (isort (openL n.notes)).length (Nat.le_refl _)
      rwa [List.take_length] at this
    have hsl := hsub.length_le
    have c6 := rising_c (G := G) (selN (isort (openL n.notes)) s (isort (openL n.notes)).length) (by omega) (hO.sublist hsub)
    by_cases hz : (isort (openL n.notes)).length = 0
    · have hz1 : (idxv (openI n.notes)).length = 0 := by omega
      have hz2 : (selN (isort (openL n.notes)) s (isort (openL n.notes)).length).length = 0 := by omega
      generalize selN (isort (openL n.notes)) s (isort (openL n.notes)).length = S at *
      generalize idxv (openI n.notes) = J at *
      obtain rfl := List.eq_nil_of_length_eq_zero hz1
      obtain rfl := List.eq_nil_of_length_eq_zero hz2
      clear hs hG hN hS
      have hs : True := trivial
      repeat' first | (with_reducible first | refine q01 ?_ | refine q02 ?_ | refine q11 ?_ | refine q14 ?_ | refine q17 ?_) | (with_reducible refine At.fn_ret (by simp -dsimp [hs]; exact rfl) ?_) | (refine CallE.pure (c1) ?_; try simp -dsimp [hs]) | (refine CallE.pure (c2) ?_; try simp -dsimp [hs]) | (refine CallE.pure (c3) ?_; try simp -dsimp [hs]) | (refine CallE.pure (c4) ?_; try simp -dsimp [hs]) | (refine CallE.pure (c5) ?_; try simp -dsimp [hs]) | (refine CallE.pure (c6) ?_; try simp -dsimp [hs]) | (with_reducible refine DT_regionE [0,1,2,3,6,7,8,9,10,11,12,13,14,15,16,17,19,20,21,22,23,24,25,26,27,35,60,63,110,112,113,114,115,137] ?_; simp -dsimp [hs]) | (refine DT_cond rfl (fun h => ?_) (fun h => ?_) <;> (try simp only [nrm] at h) <;> (try exact Bool.noConfusion h))
      all_goals try simp -dsimp [hs]
      all_goals try clear hs
    · have hlt : b % (isort (openL n.notes)).length < (isort (openL n.notes)).length := Nat.mod_lt _ (by omega)
      have hw : IntKind.i64.wrap (b : Int) = b := i64w (by omega) (by omega)
      have ht : (b : Int).tmod ((isort (openL n.notes)).length : Int) = ((b % (isort (openL n.notes)).length : Nat) : Int) := by rw [Int.tmod_eq_emod_of_nonneg (by omega)]; simp
      obtain ⟨i, x, hJ, hx, hOj, ho⟩ := R.openAt hlt
      have hil := lt_of_getElem? hx
      have hxe : n.notes[i] = x := (List.getElem?_eq_some_iff.1 hx).2
      generalize hj : b % (isort (openL n.notes)).length = j at *
      have c7 := nSettle_c (G := G) n x.number true hG hN hS R.sn R.s
      have c8 := nSettle_c (G := G) n x.number false hG hN hS R.sn R.s
      rw [(R.settle hx ho true).1, (R.settle hx ho true).2] at c7
      rw [(R.settle hx ho false).1, (R.settle hx ho false).2] at c8
      simp only [if_true, Bool.false_eq_true, if_false] at c7 c8
      have ky := NKind.set hk (i := i) (v := 2) (by omega)
      have kn := NKind.set hk (i := i) (v := 0) (by omega)
      have ry := R.set hk hx (v := 2) (by omega) (by omega)
      have rn := R.set hk hx (v := 0) (by omega) (by omega)
      have Y := readyRF ky ry
      have Z := readyRF kn rn
      have c9 := ready_c (G := G) (setN n i 2) ky
      have c10 := ready_c (G := G) (setN n i 0) kn
      rw [ry] at c9
      rw [rn] at c10
      have c11 := rTruths_c (G := G) (setN n i 0) Z.s Z.ok (by rw [← isortL]; exact Z.o5)
      have hOy : isort (openL (setN n i 2).notes) = isort (openL (setN n i 0).notes) := by
        rw [show (setN n i 2).notes = setSg n.notes i 2 from rfl, show (setN n i 0).notes = setSg n.notes i 0 from rfl, open_list R.ok hx (by omega) (by omega), open_list R.ok hx (by omega) (by omega)]
      have hAy := Y.asked (t := []) (by simp) hM.1 hM.2
      have hAz := Z.asked (t := []) (by simp) hM.1 hM.2
      have c12 := nSure_c (setN n i 2) M hG hN hS Y.s
      have c13 := nSure_c (setN n i 0) M hG hN hS Z.s
      rw [hAy, if_pos rfl, hOy] at c12
      rw [hAz, if_pos rfl] at c13
      have hmat := mat_settle R.ok (by rw [← isortL]; exact R.o5) hx ho hOj M
      rw [hs] at hmat
      have hhas := selN_has hO (s := s) hOj
      have c14 := hasL_c (G := G) (selN (isort (openL n.notes)) s (isort (openL n.notes)).length) x.number (by omega)
      rw [hhas] at c14
      have hT : ∀ t ∈ truthsL (isort (openL (setN n i 0).notes)), t.Sublist (isort (openL (setN n i 0).notes)) := fun t ht => (truths_mem (isort_strict (openL_nodup Z.ok))).1 ht
      have hT2 : ∀ t : List Int, t.Sublist (isort (openL (setN n i 0).notes)) → t ∈ truthsL (isort (openL (setN n i 0).notes)) := fun t ht => (truths_mem (isort_strict (openL_nodup Z.ok))).2 ht
      have hTl := truthsL_len (isort (openL (setN n i 0).notes))
      have hPl : 2 ^ (isort (openL (setN n i 0).notes)).length ≤ 2 ^ 5 := Nat.pow_le_pow_right (by omega) Z.o5
      have hany : difT (setN n i 2) (setN n i 0) M (truthsL (isort (openL (setN n i 0).notes))) (truthsL (isort (openL (setN n i 0).notes))).length = s.testBit j := by
        rw [Bool.eq_iff_iff, hmat]
        unfold difT
        rw [List.take_length, List.any_eq_true]
        constructor
        · rintro ⟨t, h1, h2⟩; exact ⟨t, hT t h1, of_decide_eq_true h2⟩
        · rintro ⟨t, h1, h2⟩; exact ⟨t, hT2 t h1, decide_eq_true h2⟩
      have hsame : s.testBit j = false → sureTo (setN n i 2) M (isort (openL (setN n i 0).notes)) (2 ^ (isort (openL (setN n i 0).notes)).length) = sureTo (setN n i 0) M (isort (openL (setN n i 0).notes)) (2 ^ (isort (openL (setN n i 0).notes)).length) := fun h => by
        have hall : ∀ t ∈ truthsL (isort (openL (setN n i 0).notes)), lettersK (setN n i 2) t M = lettersK (setN n i 0) t M := fun t ht => by
          rw [← hany] at h
          unfold difT at h
          rw [List.take_length, List.any_eq_false] at h
          simpa using h t ht
        exact sureTo_congr _ hall (hall [] (hT2 [] (by simp)))
      have hSl1 := sureTo_len (setN n i 2) M (isort (openL (setN n i 0).notes)) (2 ^ (isort (openL (setN n i 0).notes)).length)
      have hSl2 := sureTo_len (setN n i 0) M (isort (openL (setN n i 0).notes)) (2 ^ (isort (openL (setN n i 0).notes)).length)
      have hnl := R.n60
      have hnl' := numsTo_length n.reg n.reg.length
      have hT' := hT
      have c15 := sameI3_c (G := G) (sureTo (setN n i 2) M (isort (openL (setN n i 0).notes)) (2 ^ (isort (openL (setN n i 0).notes)).length)) (sureTo (setN n i 0) M (isort (openL (setN n i 0).notes)) (2 ^ (isort (openL (setN n i 0).notes)).length)) (by rw [hSl1]; show (nums n.reg).length < _; omega) (by rw [hSl2]; show (nums n.reg).length < _; omega)
      generalize sureTo (setN n i 2) M (isort (openL (setN n i 0).notes)) (2 ^ (isort (openL (setN n i 0).notes)).length) = S1 at *
      generalize sureTo (setN n i 0) M (isort (openL (setN n i 0).notes)) (2 ^ (isort (openL (setN n i 0).notes)).length) = S2 at *
      generalize truthsL (isort (openL (setN n i 0).notes)) = T at *
      generalize selN (isort (openL n.notes)) s (isort (openL n.notes)).length = S at *
      generalize idxv (openI n.notes) = J at *
      generalize s.testBit j = q at *
      generalize hY : setN n i 2 = Y0 at *
      generalize hZ : setN n i 0 = Z0 at *
      have hCY : ∀ t ∈ T, ∀ objs, DCall Tryz.prog G 21 [notesv Y0, isv t, iv M] objs (fun rr o => rr = .tup [isv (lettersK Y0 t M), iv 0] ∧ o = objs) := fun t ht => by
        have h1 := (hT t ht).length_le
        have h2 := Z.o5
        have := nLetters_c (G := G) Y0 t M hG hN hS Y.s (by omega)
        rwa [Y.asked (by rw [hOy]; exact hT t ht) hM.1 hM.2, if_pos rfl, letters_eq] at this
      have hCZ : ∀ t ∈ T, ∀ objs, DCall Tryz.prog G 21 [notesv Z0, isv t, iv M] objs (fun rr o => rr = .tup [isv (lettersK Z0 t M), iv 0] ∧ o = objs) := fun t ht => by
        have h1 := (hT t ht).length_le
        have h2 := Z.o5
        have := nLetters_c (G := G) Z0 t M hG hN hS Z.s (by omega)
        rwa [Z.asked (hT t ht) hM.1 hM.2, if_pos rfl, letters_eq] at this
      have hLk : ∀ (t : List Int), (lettersK Y0 t M).length < 1000000 := fun t => by
        rw [lettersK_len]
        have : (nums Y0.reg).length = (nums n.reg).length := by rw [← hY]; rfl
        omega
      have hLz : ∀ (t : List Int), (lettersK Z0 t M).length < 1000000 := fun t => by
        rw [lettersK_len]
        have : (nums Z0.reg).length = (nums n.reg).length := by rw [← hZ]; rfl
        omega
      have hTT : T.length ≤ 32 := by omega
      have hJO : ¬ J.length = 0 := by omega
      have hJn : ¬ J = [] := fun e => hJO (by rw [e]; rfl)
      have hJj : j < J.length := by omega
      have hJg : J[j] = (i : Int) := (List.getElem?_eq_some_iff.1 hJ).2
      have hSl : ¬ (J.length : Int) < S.length := by omega
      have ht2 : (b : Int).tmod (J.length : Int) = (j : Int) := by rw [hJl]; exact ht
      have hJi0 : ¬ (J.length : Int) = 0 := by omega
      clear hG hN hS hsub hsl hT hT2 hTl hPl hOy hmat hs hO hO5 hA hAy hAz R Y Z ky kn ry rn hk hhas ht hOj hT' hj hY hZ hnl hnl' hSl1 hSl2
      have hs : True := trivial
      repeat' first | (with_reducible first | refine q01 ?_ | refine q11 ?_ | refine q12 ?_ | refine q14 ?_) | (refine CallE.pure (c1) ?_; try simp -dsimp [hw, ht2, hJn, hJO, hJi0, hJj, hJg, hJ, hil, hxe, hSl, hs]) | (refine CallE.pure (c2) ?_; try simp -dsimp [hw, ht2, hJn, hJO, hJi0, hJj, hJg, hJ, hil, hxe, hSl, hs]) | (refine CallE.pure (c3) ?_; try simp -dsimp [hw, ht2, hJn, hJO, hJi0, hJj, hJg, hJ, hil, hxe, hSl, hs]) | (refine CallE.pure (c4) ?_; try simp -dsimp [hw, ht2, hJn, hJO, hJi0, hJj, hJg, hJ, hil, hxe, hSl, hs]) | (refine CallE.pure (c5) ?_; try simp -dsimp [hw, ht2, hJn, hJO, hJi0, hJj, hJg, hJ, hil, hxe, hSl, hs]) | (refine CallE.pure (c6) ?_; try simp -dsimp [hw, ht2, hJn, hJO, hJi0, hJj, hJg, hJ, hil, hxe, hSl, hs]) | (refine CallE.pure (c7) ?_; try simp -dsimp [hw, ht2, hJn, hJO, hJi0, hJj, hJg, hJ, hil, hxe, hSl, hs]) | (refine CallE.pure (c8) ?_; try simp -dsimp [hw, ht2, hJn, hJO, hJi0, hJj, hJg, hJ, hil, hxe, hSl, hs]) | (refine CallE.pure (c9) ?_; try simp -dsimp [hw, ht2, hJn, hJO, hJi0, hJj, hJg, hJ, hil, hxe, hSl, hs]) | (refine CallE.pure (c10) ?_; try simp -dsimp [hw, ht2, hJn, hJO, hJi0, hJj, hJg, hJ, hil, hxe, hSl, hs]) | (refine CallE.pure (c11) ?_; try simp -dsimp [hw, ht2, hJn, hJO, hJi0, hJj, hJg, hJ, hil, hxe, hSl, hs]) | (refine DT_regionM (id := 11) (nt := 182) 14 [0,1,2,3,6,7,8,9,10,11,12,13,14,15,16,17,19,20,21,22,23,24,25,26,27,35,60,63,110,112,113,114,115,137] mixed rfl (by kernel_rfl) ?_; simp -dsimp [hw, ht2, hJn, hJO, hJi0, hJj, hJg, hJ, hil, hxe, hSl, hs]) | (with_reducible refine DT_regionE [0,1,2,3,6,7,8,9,10,11,12,13,14,15,16,17,19,20,21,22,23,24,25,26,27,35,60,63,110,112,113,114,115,137] ?_; simp -dsimp [hw, ht2, hJn, hJO, hJi0, hJj, hJg, hJ, hil, hxe, hSl, hs]) | (refine DT_cond rfl (fun h => ?_) (fun h => ?_) <;> (try simp only [nrm] at h) <;> (try exact Bool.noConfusion h))
      all_goals try simp -dsimp [hw, ht2, hJn, hJO, hJi0, hJj, hJg, hJ, hil, hxe, hSl, hs]
      all_goals try clear hs
      refine DT_loop (ι := { k : Nat // k ≤ T.length }) (fun p => ⟨182, [(7, bv true), (8, iv M), (9, isv S), (12, iv x.number), (13, .one (.ptr 3 0)), (15, .one (.ptr 6 0)), (17, bv (difT Y0 Z0 M T p.1)), (112, lsv T), (113, iv (T.length : Int)), (114, iv (p.1 : Int))], [.row ((encNotes n).map .im), .vec 0 [] 0 true, .vec 0 [] 0 true, .row ((encNotes Y0).map .im), .vec 0 [] 0 true, .vec 0 [] 0 true, .row ((encNotes Z0).map .im)]⟩) (fun p => T.length - p.1) ⟨0, by simp⟩ (Weak.of_keep [7,8,9,12,13,15,17,112,113,114] (by simp [difT])) ?_
      rintro ⟨k, hk⟩
      simp only [iv, isv, bv, lsv]
      by_cases hlt : k < T.length
      · have hw9 : IntKind.i64.wrap ((k : Int) + 1) = ((k + 1 : Nat) : Int) := i64w (by omega) (by omega)
        have hsu := difT_succ (n := Y0) (n' := Z0) (M := M) hlt
        have htm : T[k] ∈ T := List.getElem_mem hlt
        generalize htt : T[k] = t at *
        have d1 := hCY t htm
        have d2 := hCZ t htm
        have d3 := sameI3_c (G := G) (lettersK Y0 t M) (lettersK Z0 t M) (hLk t) (hLz t)
        generalize lettersK Y0 t M = A1 at *
        generalize lettersK Z0 t M = A2 at *
        generalize difT Y0 Z0 M T k = D at *
        have hsu2 : difT Y0 Z0 M T (k + 1) = (D || !decide (A1 = A2)) := by rw [hsu]; by_cases e : A1 = A2 <;> simp [e]
        generalize decide (A1 = A2) = E at *
        cases D
        · have hs : True := trivial
          repeat' first | (with_reducible first | refine q01 ?_ | refine q04 ?_ | refine q11 ?_ | refine q12 ?_ | refine q14 ?_) | (refine CallE.pure (d1) ?_; try simp -dsimp [hlt, hw9, htt, hs]) | (refine CallE.pure (d2) ?_; try simp -dsimp [hlt, hw9, htt, hs]) | (refine CallE.pure (d3) ?_; try simp -dsimp [hlt, hw9, htt, hs]) | (with_reducible refine DT_regionE [0,1,2,3,6,7,8,9,10,11,12,13,14,15,16,17,19,20,21,22,23,24,25,26,27,35,60,63,110,112,113,114,115,137] ?_; simp -dsimp [hlt, hw9, htt, hs]) | (refine DT_cond rfl (fun h => ?_) (fun h => ?_) <;> (try simp only [nrm] at h) <;> (try exact Bool.noConfusion h))
          all_goals try simp -dsimp [hlt, hw9, htt, hs]
          all_goals try clear hs
          all_goals exact At.round ⟨k + 1, by omega⟩ (by simp; omega) (Weak.of_keep [7,8,9,12,13,15,17,112,113,114] (by simp [hsu2]))
        · have hs : True := trivial
          repeat' first | (with_reducible first | refine q01 ?_ | refine q04 ?_ | refine q11 ?_ | refine q12 ?_ | refine q14 ?_) | (refine CallE.pure (d1) ?_; try simp -dsimp [hlt, hw9, htt, hs]) | (refine CallE.pure (d2) ?_; try simp -dsimp [hlt, hw9, htt, hs]) | (with_reducible refine DT_regionE [0,1,2,3,6,7,8,9,10,11,12,13,14,15,16,17,19,20,21,22,23,24,25,26,27,35,60,63,110,112,113,114,115,137] ?_; simp -dsimp [hlt, hw9, htt, hs]) | (refine DT_cond rfl (fun h => ?_) (fun h => ?_) <;> (try simp only [nrm] at h) <;> (try exact Bool.noConfusion h))
          all_goals try simp -dsimp [hlt, hw9, htt, hs]
          all_goals try clear hs
          all_goals exact At.round ⟨k + 1, by omega⟩ (by simp; omega) (Weak.of_keep [7,8,9,12,13,15,17,112,113,114] (by simp [hsu2]))
      · obtain rfl : k = T.length := by omega
        rw [hany]
        cases q
        · have e := hsame rfl
          rw [decide_eq_true e] at c15
          have hs : True := trivial
          repeat' first | (with_reducible first | refine q01 ?_ | refine q03 ?_ | refine q06 ?_ | refine q11 ?_ | refine q16 ?_ | refine q17 ?_) | (with_reducible refine At.fn_ret (by simp -dsimp [hlt, hs]; exact rfl) ?_) | (refine CallE.pure (c12) ?_; try simp -dsimp [hlt, hs]) | (refine CallE.pure (c13) ?_; try simp -dsimp [hlt, hs]) | (refine CallE.pure (c14) ?_; try simp -dsimp [hlt, hs]) | (refine CallE.pure (c15) ?_; try simp -dsimp [hlt, hs]) | (with_reducible refine DT_regionE [0,1,2,3,6,7,8,9,10,11,12,13,14,15,16,17,19,20,21,22,23,24,25,26,27,35,60,63,110,112,113,114,115,137] ?_; simp -dsimp [hlt, hs]) | (refine DT_cond rfl (fun h => ?_) (fun h => ?_) <;> (try simp only [nrm] at h) <;> (try exact Bool.noConfusion h))
          all_goals try simp -dsimp [hlt, hs]
          all_goals try clear hs
        · have hs : True := trivial
          repeat' first | (with_reducible first | refine q01 ?_ | refine q03 ?_ | refine q06 ?_ | refine q11 ?_ | refine q16 ?_ | refine q17 ?_) | (with_reducible refine At.fn_ret (by simp -dsimp [hlt, hs]; exact rfl) ?_) | (refine CallE.pure (c12) ?_; try simp -dsimp [hlt, hs]) | (refine CallE.pure (c13) ?_; try simp -dsimp [hlt, hs]) | (refine CallE.pure (c14) ?_; try simp -dsimp [hlt, hs]) | (with_reducible refine DT_regionE [0,1,2,3,6,7,8,9,10,11,12,13,14,15,16,17,19,20,21,22,23,24,25,26,27,35,60,63,110,112,113,114,115,137] ?_; simp -dsimp [hlt, hs]) | (refine DT_cond rfl (fun h => ?_) (fun h => ?_) <;> (try simp only [nrm] at h) <;> (try exact Bool.noConfusion h))
          all_goals try simp -dsimp [hlt, hs]
          all_goals try clear hs
end Go.Proofs
