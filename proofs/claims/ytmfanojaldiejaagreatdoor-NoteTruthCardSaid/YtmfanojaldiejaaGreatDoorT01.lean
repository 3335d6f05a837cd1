/- Part 31 of the proofs: laws and walks that hold without conditions beyond those that each theorem names. -/
import Derived.Test.YtmfanojaldiejaaGreatDoorA23
import Derived.Test.YtmfanojaldiejaaGreatDoorA24
import Derived.Test.YtmfanojaldiejaaGreatDoorA25
import Derived.Test.YtmfanojaldiejaaGreatDoorA26
import Derived.Test.YtmfanojaldiejaaGreatDoorA27
set_option linter.all false
set_option linter.deprecated false
namespace Go.Proofs
open Go Go.Ab
theorem lettersK_ext {n n' : Notes} {s s' : List Int} {m : Int} (hr : n'.reg = n.reg) (h : ∀ d, letF n' s' d m = letF n s d m) : lettersK n' s' m = lettersK n s m := by
  unfold lettersK
  rw [hr]
  exact List.map_congr_left fun d _ => h d
theorem selN_mem' {N : List Int} {s : Nat} {x : Int} : x ∈ selN N s N.length ↔ ∃ i : Nat, i < N.length ∧ s.testBit i = true ∧ N[i]? = some x := selN_mem (Nat.le_refl _)
theorem bits5 : ∀ s < 32, ∀ i < 5, ∀ j < 5, (s.testBit i = false → (s + 2 ^ i).testBit j = (s.testBit j || decide (j = i))) := by decide +kernel
theorem letsL_get {n : Notes} {m : Int} {O : List Int} {k P : Nat} (h : k < P) : (letsL n m O P)[k]? = some (lettersK n (selN O k O.length) m) := letsL_at h
theorem mat_settle {n : Notes} (hok : allOk n) (h5 : (openL n.notes).length ≤ 5) {i j : Nat} {x : Note} (hx : n.notes[i]? = some x) (ho : x.signed = 1) (hj : (isort (openL n.notes))[j]? = some x.number) (m : Int) :
    (matM (difB (letsL n m (isort (openL n.notes)) (2 ^ (isort (openL n.notes)).length))) (isort (openL n.notes)).length (2 ^ (isort (openL n.notes)).length)).testBit j = true ↔
      ∃ t : List Int, t.Sublist (isort (openL (setSg n.notes i 0))) ∧ lettersK ⟨n.reg, setSg n.notes i 2⟩ t m ≠ lettersK ⟨n.reg, setSg n.notes i 0⟩ t m := by
  have hOs := isort_strict (openL_nodup hok)
  have hO5 : (isort (openL n.notes)).length ≤ 5 := by rw [isort_len]; exact h5
  rw [open_list hok hx (v := 0) (by omega) (by omega)]
  generalize isort (openL n.notes) = O at *
  have hjl := lt_of_getElem? hj
  rw [mat_eq hO5 hjl]
  have hP : 2 ^ O.length ≤ 2 ^ 5 := Nat.pow_le_pow_right (by omega) hO5
  have hinj : ∀ k, O[k]? = some x.number → k = j := fun k hk => by
    have hkl := lt_of_getElem? hk
    rw [List.pairwise_iff_getElem] at hOs
    have e1 := (List.getElem?_eq_some_iff.1 hj).2
    have e2 := (List.getElem?_eq_some_iff.1 hk).2
    rcases Nat.lt_trichotomy k j with h | h | h
    · have := hOs k j hkl hjl h; omega
    · exact h
    · have := hOs j k hjl hkl h; omega
  -- a set without it, and the set with it
  have step : ∀ s, s < 2 ^ O.length → s.testBit j = false → s + 2 ^ j < 2 ^ O.length ∧ x.number ∉ selN O s O.length ∧ ∀ y, y ∈ selN O (s + 2 ^ j) O.length ↔ y ∈ selN O s O.length ∨ y = x.number := fun s hs hb => by
    refine ⟨?_, fun h => ?_, fun y => ?_⟩
    · rw [← (xor_all s (by omega) j (by omega)).1 hb]
      exact Nat.xor_lt_two_pow hs (Nat.pow_lt_pow_right (by omega) hjl)
    · obtain ⟨k, h1, h2, h3⟩ := selN_mem'.1 h
      rw [hinj k h3, hb] at h2; cases h2
    · rw [selN_mem', selN_mem']
      constructor
      · rintro ⟨k, h1, h2, h3⟩
        rw [bits5 s (by omega) j (by omega) k (by omega) hb, Bool.or_eq_true, decide_eq_true_eq] at h2
        rcases h2 with h2 | rfl
        · exact .inl ⟨k, h1, h2, h3⟩
        · rw [hj] at h3; exact .inr (Option.some.inj h3).symm
      · rintro (⟨k, h1, h2, h3⟩ | rfl)
        · exact ⟨k, h1, by rw [bits5 s (by omega) j (by omega) k (by omega) hb, h2]; rfl, h3⟩
        · exact ⟨j, hjl, by rw [bits5 s (by omega) j (by omega) j (by omega) hb]; simp, hj⟩
  have lets : ∀ s, s < 2 ^ O.length → s.testBit j = false → lettersK ⟨n.reg, setSg n.notes i 2⟩ (selN O s O.length) m = lettersK n (selN O (s + 2 ^ j) O.length) m ∧ lettersK ⟨n.reg, setSg n.notes i 0⟩ (selN O s O.length) m = lettersK n (selN O s O.length) m := fun s hs hb => by
    obtain ⟨_, h2, h3⟩ := step s hs hb
    exact ⟨lettersK_ext rfl fun d => letF_yes hok hx h3 d m, lettersK_ext rfl fun d => letF_no hx ho h2 d m⟩
  rw [matR, List.any_eq_true]
  constructor
  · rintro ⟨s, hs, hd⟩
    rw [List.mem_range] at hs
    simp only [Bool.and_eq_true, Bool.not_eq_true', decide_eq_true_eq] at hd
    obtain ⟨hb, hd⟩ := hd
    obtain ⟨h1, h2, h3⟩ := step s hs hb
    obtain ⟨e1, e2⟩ := lets s hs hb
    refine ⟨selN O s O.length, ?_, fun e => hd ?_⟩
    · have h4 : (selN O s O.length).Sublist O := by
        have := selN_sub O s O.length (Nat.le_refl _)
        rwa [List.take_length] at this
      have h5 := h4.filter fun a => decide (a ≠ x.number)
      rwa [List.filter_eq_self.2 fun a h => by simp; rintro rfl; exact h2 h] at h5
    · rw [letsL_get hs, letsL_get h1, ← e1, ← e2, e]
  · rintro ⟨t, ht, hne⟩
    have hts : t.Sublist O := ht.trans List.filter_sublist
    have hxt : x.number ∉ t := fun h => by
      have := ht.subset h
      rw [List.mem_filter] at this
      simpa using this.2
    have := (truths_mem hOs).2 hts
    unfold truthsL trTo at this
    obtain ⟨s, hs, rfl⟩ := List.mem_map.1 this
    rw [List.mem_range] at hs
    have hb : s.testBit j = false := by
      cases h : s.testBit j
      · rfl
      · exact absurd (selN_mem'.2 ⟨j, hjl, h, hj⟩) hxt
    obtain ⟨h1, _, _⟩ := step s hs hb
    obtain ⟨e1, e2⟩ := lets s hs hb
    refine ⟨s, by simpa using hs, ?_⟩
    simp only [Bool.and_eq_true, Bool.not_eq_true', decide_eq_true_eq]
    refine ⟨hb, fun e => hne ?_⟩
    rw [letsL_get hs, letsL_get h1] at e
    rw [e1, e2]; exact (Option.some.inj e).symm
theorem sureTo_congr {n n' : Notes} {m : Int} {O : List Int} : ∀ k, (∀ t ∈ trTo O k, lettersK n t m = lettersK n' t m) → lettersK n [] m = lettersK n' [] m → sureTo n m O k = sureTo n' m O k
  | 0, _, h => h
  | k + 1, h, h0 => by
    rw [sureTo_succ, sureTo_succ, sureTo_congr k (fun t ht => h t (by rw [trTo_succ]; simp [ht])) h0, h _ (by rw [trTo_succ]; simp)]
end Go.Proofs
namespace Go.Proofs
open Go Go.Ab
set_option linter.unusedSimpArgs false
variable {G : Nat → Option (List IC)}
def setN (n : Notes) (i : Nat) (v : Int) : Notes := ⟨n.reg, setSg n.notes i v⟩
theorem setSg_mem {l : List Note} {i : Nat} {v : Int} {y : Note} (h : y ∈ setSg l i v) : ∃ x ∈ l, y = x ∨ y = sgn x v := by
  obtain ⟨j, hj⟩ := List.mem_iff_getElem?.1 h
  obtain ⟨x, h1, h2⟩ := setSg_at hj
  refine ⟨x, List.mem_of_getElem? h1, ?_⟩
  split at h2
  · exact .inr h2
  · exact .inl h2
theorem NKind.set {n : Notes} (hk : NKind n) {i : Nat} {v : Int} (hv : 0 ≤ v ∧ v ≤ 2) : NKind (setN n i v) := by
  refine ⟨hk.1, fun y hy => ?_⟩
  obtain ⟨x, hx, h⟩ := setSg_mem hy
  have := hk.2 x hx
  rcases h with rfl | rfl
  · exact this
  · exact ⟨this.1, this.2.1, by simp [sgn]; omega, by simp [sgn]; omega⟩
theorem RF.set {n : Notes} (R : RF n) (hk : NKind n) {i : Nat} {x : Note} (hx : n.notes[i]? = some x) {v : Int} (hv : 0 ≤ v ∧ v ≤ 2) (h1 : v ≠ 1) : readyB (setN n i v) = true := by
  have hl : (setSg n.notes i v).length = n.notes.length := setSg_len _ _ _
  have h0 : smallNB (setN n i v) = true := by
    unfold smallNB
    rw [Bool.and_eq_true]
    exact ⟨decide_eq_true R.sn.1, decide_eq_true (by show (setSg n.notes i v).length ≤ 16; rw [hl]; exact R.sn.2)⟩
  have h2 : notesE (setN n i v) = 0 := by
    unfold notesE
    rw [if_neg (by simp [setN, R.c]), if_pos]
    refine notesB_iff.2 ⟨by show (setSg n.notes i v).length ≤ 12; rw [hl]; exact R.l, allOk_set R.ok hv i, ?_⟩
    have := open_list R.ok hx hv h1
    rw [← isortL, show (setN n i v).notes = setSg n.notes i v from rfl, this]
    exact Nat.le_trans (List.length_filter_le _ _) R.o5
  simp [readyB, h0, h2]
theorem RF.openAt {n : Notes} (_R : RF n) {j : Nat} (hj : j < (isort (openL n.notes)).length) : ∃ (i : Nat) (x : Note), (idxv (openI n.notes))[j]? = some (i : Int) ∧ n.notes[i]? = some x ∧ (isort (openL n.notes))[j]? = some x.number ∧ x.signed = 1 := by
  have hnu := openI_nums (n := n)
  have hOl : (isort (openL n.notes)).length = (openI n.notes).length := by rw [← hnu, List.length_map]
  have hi : j < (openI n.notes).length := by omega
  obtain ⟨h1, h2⟩ := (openI_to n.notes).lt _ (List.getElem_mem hi)
  refine ⟨(openI n.notes)[j], n.notes[(openI n.notes)[j]], by simp [idxv, hi], List.getElem?_eq_getElem h1, ?_, ?_⟩
  · rw [← hnu, List.getElem?_map, List.getElem?_eq_getElem hi]
    simp [numAt, h1]
  · simpa [opAt, List.getElem?_eq_getElem h1] using h2
theorem RF.settle {n : Notes} (R : RF n) {i : Nat} {x : Note} (hx : n.notes[i]? = some x) (ho : x.signed = 1) (b : Bool) : settleE n x.number = 0 ∧ settleN n x.number b = setN n i (if b = true then 2 else 0) := by
  have hE : settleE n x.number = 0 := by unfold settleE; rw [if_neg (by simp [R.e]), if_pos (open_mem.2 ⟨i, x, hx, rfl, ho⟩)]
  refine ⟨hE, ?_⟩
  unfold settleN settleL setN
  rw [if_pos hE, settleI_at R.ok hx]
end Go.Proofs
namespace Go.Proofs
open Go Go.Ab
set_option linter.unusedSimpArgs false
variable {G : Nat → Option (List IC)}
theorem truth_facts {n : Notes} (R : RF n) {M D : Int} {a : Nat} (hD : (nums n.reg)[a]? = some D) {T : List (List Int)} (hT : T = truthsL (isort (openL n.notes))) {L S : List Int} (hL : L = dedupI (isort (T.map fun t => letF n t D M))) (hS : S = sureTo n M (isort (openL n.notes)) (2 ^ (isort (openL n.notes)).length)) :
    L.length ≠ 0 ∧ L.Pairwise (· < ·) ∧ S.length = (nums n.reg).length ∧ (∀ t ∈ T, letF n t D M ∈ L) ∧ (∀ t ∈ T, ∀ (i : Nat) (v w : Int), S[i]? = some v → (lettersK n t M)[i]? = some w → v = 0 ∨ v = w) ∧ (∃ v, S[a]? = some v ∧ (v = 0 ↔ L.length ≠ 1)) ∧ (∀ K : List Int, K.Nodup → (∀ x, x ∈ K ↔ x ∈ T.map fun t => letF n t D M) → K.length = L.length) := by
  have hnil : ([] : List Int) ∈ T := by rw [hT, truths_mem (isort_strict (openL_nodup R.ok))]; simp
  have hmem : ∀ x, x ∈ L ↔ x ∈ T.map fun t => letF n t D M := fun x => by rw [hL, dedupI_mem, isort_mem]
  have hlen : S.length = (nums n.reg).length := by rw [hS, sureTo_len]
  have htr : T = trTo (isort (openL n.notes)) (2 ^ (isort (openL n.notes)).length) := hT
  have hpos : ∀ {d : Int}, d ∈ nums n.reg → ∀ t, 1 ≤ letF n t d M := fun hd t => (letF_range R.c R.ok hd t M).1
  refine ⟨fun h => ?_, ?_, hlen, fun t ht => (hmem _).2 (List.mem_map_of_mem ht), fun t ht i v w hv hw => ?_, ?_, fun K h1 h2 => ?_⟩
  · have := (hmem (letF n [] D M)).2 (List.mem_map_of_mem hnil)
    rw [List.eq_nil_of_length_eq_zero h] at this; cases this
  · rw [hL]; exact dedupI_lt _ (isort_sorted _)
  · have hi := lt_of_getElem? hv
    rw [hlen] at hi
    have hd : (nums n.reg)[i]? = some (nums n.reg)[i] := List.getElem?_eq_getElem hi
    rw [hS, sure_at hd (hpos (List.getElem_mem hi))] at hv
    rw [lettersK_at hd] at hw
    have hv := Option.some.inj hv
    have hw := Option.some.inj hw
    split at hv
    · rename_i hall
      rw [← htr, List.all_eq_true] at hall
      right
      have := of_decide_eq_true (hall t ht)
      rw [← hv, ← hw, this]
    · exact .inl hv.symm
  · refine ⟨_, by rw [hS]; exact sure_at hD (hpos (List.mem_of_getElem? hD)) _, ?_⟩
    have h1 := hpos (List.mem_of_getElem? hD) []
    have hone := dedup_one (L := T.map fun t => letF n t D M) (c := letF n [] D M) (List.mem_map_of_mem hnil)
    rw [← hL] at hone
    rw [← htr]
    split
    · rename_i hall
      rw [List.all_eq_true] at hall
      have : L.length = 1 := hone.2 fun x hx => by
        obtain ⟨t, ht, rfl⟩ := List.mem_map.1 hx
        exact of_decide_eq_true (hall t ht)
      omega
    · rename_i hall
      refine ⟨fun _ h => hall ?_, fun _ => rfl⟩
      rw [List.all_eq_true]
      exact fun t ht => decide_eq_true (hone.1 h _ (List.mem_map_of_mem ht))
  · rw [hL]; exact dedup_count h1 h2
theorem sput_nodup {x : Int} {K : List Int} (h : K.Nodup) : (sput x K).Nodup := by
  unfold sput
  split
  · exact h
  · rename_i hx
    rw [List.nodup_append]
    exact ⟨h, by simp, fun a ha b hb => by simp at hb; subst hb; exact fun e => hx (e ▸ ha)⟩
theorem sput_mem {x y : Int} {K : List Int} : y ∈ sput x K ↔ y ∈ K ∨ y = x := by
  unfold sput
  split
  · exact ⟨.inl, fun h => h.elim id fun e => e ▸ ‹_›⟩
  · simp
set_option maxHeartbeats 8000000 in
theorem noteTruth_c (n : Notes) (m d : Nat) (hG : sheetG G) (hN : noteG G) (hS : SortOk G) (hk : NKind n) (hm : m < 65536) (hd : d < 256) (objs : List DObj) : DCall Tryz.prog G 3 [notesv n, u16v (m : Int), u8V (d : Int)] objs (fun rr objs' => rr = bv true ∧ objs' = objs) := by
  refine DCall.frame ?_ (by simp) (by simp) objs
  refine DCall_intro Tryz.func3 rfl Tryz.ntmps3 (by simp) rfl ?_
  try simp only [notesv]
  have c1 := alive_c hG hN hS
  have c2 := ready_c (G := G) n hk
  cases hq : readyB n
  · rw [hq] at c2
    have hs : True := trivial
    repeat' first | (with_reducible first | refine q01 ?_ | refine q02 ?_ | refine q11 ?_ | refine q17 ?_) | (with_reducible refine At.fn_ret (by simp -dsimp [hs]; exact rfl) ?_) | (refine CallE.pure (c1) ?_; try simp -dsimp [hs]) | (refine CallE.pure (c2) ?_; try simp -dsimp [hs]) | (with_reducible refine DT_regionE [0,1,2,3,6,7,8,9,10,11,12,13,14,15,17,18,19,20,28,76,79,80,81,82,109,116,117,118,135] ?_; simp -dsimp [hs]) | (refine DT_cond rfl (fun h => ?_) (fun h => ?_) <;> (try simp only [nrm] at h) <;> (try exact Bool.noConfusion h))
    all_goals try simp -dsimp [hs]
    all_goals try clear hs
  · have R := readyRF hk hq
    rw [hq] at c2
    have c4 := machineOf_c (G := G) m hm
    have c5 := drawingOf_c (G := G) n.reg d (by have := R.s.1.1; omega) R.ne hd
    have hM : 1 ≤ ((m % 999 + 1 : Nat) : Int) ∧ ((m % 999 + 1 : Nat) : Int) ≤ 999 := by omega
    generalize ((m % 999 + 1 : Nat) : Int) = M at *
    have hat : d % (nums n.reg).length < (nums n.reg).length := Nat.mod_lt _ (by have := R.ne; cases h : nums n.reg <;> simp_all)
    generalize d % (nums n.reg).length = a at *
    have hD : (nums n.reg)[a]? = some ((nums n.reg).getD a 0) := by simp [hat]
    have hDm := List.mem_of_getElem? hD
    generalize (nums n.reg).getD a 0 = D at *
    have c6 := nPossible_c n D M hG hN hS R.s
    have c7 := nSure_c n M hG hN hS R.s
    have c8 := numbers_c (G := G) n.reg (by have := R.s.1.1; omega)
    have c9 := rTruths_c (G := G) n R.s R.ok (by rw [← isortL]; exact R.o5)
    rw [R.drawn (t := []) (by simp) hM.1 hM.2 hDm, if_pos rfl] at c6
    rw [R.asked (t := []) (by simp) hM.1 hM.2, if_pos rfl] at c7
    have hT : ∀ t ∈ truthsL (isort (openL n.notes)), t.Sublist (isort (openL n.notes)) := fun t ht => (truths_mem (isort_strict (openL_nodup R.ok))).1 ht
    have hA : ∀ t ∈ truthsL (isort (openL n.notes)), askedE n t M = 0 := fun t ht => R.asked (hT t ht) hM.1 hM.2
    have hC : ∀ t ∈ truthsL (isort (openL n.notes)), t.length < 1000 := fun t ht => by
      have := (hT t ht).length_le; have := R.o5; omega
    have hTl := truthsL_len (isort (openL n.notes))
    have hPl : 2 ^ (isort (openL n.notes)).length ≤ 2 ^ 5 := Nat.pow_le_pow_right (by omega) R.o5
    obtain ⟨f1, f2, f3, f4, f5, ⟨v0, f6, f7⟩, f8⟩ := truth_facts R (M := M) hD rfl rfl rfl
    have hnl := R.n60
    have hLl : (dedupI (isort ((truthsL (isort (openL n.notes))).map fun t => letF n t D M))).length ≤ 32 := by
      have h6 := dedupI_len (isort ((truthsL (isort (openL n.notes))).map fun t => letF n t D M))
      rw [isortL, List.length_map] at h6
      omega
    have c10 := rising_c (G := G) _ (by omega) f2
    have hKL := fun t => lettersK_len n t M
    have hKa := fun t => lettersK_at (n := n) (t := t) (m := M) hD
    have hCL : ∀ t ∈ truthsL (isort (openL n.notes)), ∀ objs, DCall Tryz.prog G 21 [notesv n, isv t, iv M] objs (fun rr o => rr = .tup [isv (lettersK n t M), iv 0] ∧ o = objs) := fun t ht => by
      have := nLetters_c (G := G) n t M hG hN hS R.s (hC t ht)
      rwa [hA t ht, if_pos rfl, letters_eq] at this
    clear hA hC hG hN hS
    have c11 := fun x => hasL_c (G := G) (dedupI (isort ((truthsL (isort (openL n.notes))).map fun t => letF n t D M))) x (by omega)
    generalize dedupI (isort ((truthsL (isort (openL n.notes))).map fun t => letF n t D M)) = L at *
    generalize sureTo n M (isort (openL n.notes)) (2 ^ (isort (openL n.notes)).length) = S at *
    generalize hf : (fun t : List Int => letF n t D M) = f at *
    have hfa : ∀ t, letF n t D M = f t := fun t => by rw [← hf]
    simp only [hfa] at hKa f4
    generalize hTT : truthsL (isort (openL n.notes)) = T at *
    generalize hNN : nums n.reg = N at *
    have g1 : (a : Int) < S.length := by omega
    have g2 : a < S.length := by omega
    have g3 : S[a] = v0 := (List.getElem?_eq_some_iff.1 f6).2
    have hT32 : T.length ≤ 32 := by omega
    clear hD hDm hT hf hfa hTT hNN hTl hPl
    have f9 : ¬ L = [] := fun e => f1 (by rw [e]; rfl)
    have hs : True := trivial
    repeat' first | (with_reducible first | refine q01 ?_ | refine q11 ?_ | refine q12 ?_ | refine q14 ?_) | (refine CallE.pure (c1) ?_; try simp -dsimp [g1, g2, f1, f3, f9, hs]) | (refine CallE.pure (c2) ?_; try simp -dsimp [g1, g2, f1, f3, f9, hs]) | (refine CallE.pure (c4) ?_; try simp -dsimp [g1, g2, f1, f3, f9, hs]) | (refine CallE.pure (c5) ?_; try simp -dsimp [g1, g2, f1, f3, f9, hs]) | (refine CallE.pure (c6) ?_; try simp -dsimp [g1, g2, f1, f3, f9, hs]) | (refine CallE.pure (c7) ?_; try simp -dsimp [g1, g2, f1, f3, f9, hs]) | (refine CallE.pure (c8) ?_; try simp -dsimp [g1, g2, f1, f3, f9, hs]) | (refine CallE.pure (c9) ?_; try simp -dsimp [g1, g2, f1, f3, f9, hs]) | (refine CallE.pure (c10) ?_; try simp -dsimp [g1, g2, f1, f3, f9, hs]) | (with_reducible refine DT_regionE [0,1,2,3,6,7,8,9,10,11,12,13,14,15,17,18,19,20,28,76,79,80,81,82,109,116,117,118,135] ?_; simp -dsimp [g1, g2, f1, f3, f9, hs]) | (refine DT_cond rfl (fun h => ?_) (fun h => ?_) <;> (try simp only [nrm] at h) <;> (try exact Bool.noConfusion h))
    all_goals try simp -dsimp [g1, g2, f1, f3, f9, hs]
    all_goals try clear hs
    refine DT_loop (ι := { p : Nat × List Int // p.1 ≤ T.length ∧ p.2.Nodup ∧ ∀ x, x ∈ p.2 ↔ x ∈ (T.take p.1).map f }) (fun p => ⟨157, [(3, .one (.ptr 0 0)), (7, bv true), (8, iv M), (10, iv (a : Int)), (11, isv L), (13, isv S), (15, .one (.map 1)), (79, lsv T), (80, iv (T.length : Int)), (81, iv (p.1.1 : Int))], [.row ((encNotes n).map .im), .map [.int .i64] (encS p.1.2)]⟩) (fun p => T.length - p.1.1) ⟨(0, []), by simp⟩ (Weak.of_keep [3,7,8,10,11,13,15,79,80,81] (by simp [encS])) ?_
    rintro ⟨⟨k, K⟩, hk, hK1, hK2⟩
    simp only at hk hK1 hK2
    simp only [iv, isv, bv, lsv]
    by_cases hlt : k < T.length
    · have hw : IntKind.i64.wrap ((k : Int) + 1) = ((k + 1 : Nat) : Int) := i64w (by omega) (by omega)
      have htm : T[k] ∈ T := List.getElem_mem hlt
      have htk : T.take (k + 1) = T.take k ++ [T[k]] := List.take_succ_eq_append_getElem hlt
      generalize ht : T[k] = t at *
      have c12 := hCL t htm
      have c13 := c11 (f t)
      rw [decide_eq_true (f4 t htm)] at c13
      have hX := f5 t htm
      have hXa := hKa t
      have hXl := hKL t
      generalize lettersK n t M = X at *
      have g4 : (a : Int) < X.length := by omega
      have g5 : a < X.length := by omega
      have g6 : X[a] = f t := (List.getElem?_eq_some_iff.1 hXa).2
      have g7 : X.length = S.length := by omega
      have hs : True := trivial
      repeat' first | (with_reducible first | refine q01 ?_ | refine q11 ?_ | refine q12 ?_ | refine q14 ?_) | (refine CallE.pure (c12) ?_; try simp -dsimp [hlt, hw, ht, g4, g5, g6, g7, hXa, hs]) | (refine CallE.pure (c13) ?_; try simp -dsimp [hlt, hw, ht, g4, g5, g6, g7, hXa, hs]) | (with_reducible refine DT_regionE [0,1,2,3,6,7,8,9,10,11,12,13,14,15,17,18,19,20,28,76,79,80,81,82,109,116,117,118,135] ?_; simp -dsimp [hlt, hw, ht, g4, g5, g6, g7, hXa, hs]) | (refine DT_cond rfl (fun h => ?_) (fun h => ?_) <;> (try simp only [nrm] at h) <;> (try exact Bool.noConfusion h))
      all_goals try simp -dsimp [hlt, hw, ht, g4, g5, g6, g7, hXa, hs]
      all_goals try clear hs
      refine DT_loop (ι := { i : Nat // i ≤ S.length }) (fun i => ⟨157, [(3, .one (.ptr 0 0)), (7, bv true), (8, iv M), (10, iv (a : Int)), (11, isv L), (13, isv S), (15, .one (.map 1)), (18, isv X), (79, lsv T), (80, iv (T.length : Int)), (81, iv (k : Int)), (116, iv (S.length : Int)), (117, iv (i.1 : Int))], [.row ((encNotes n).map .im), .map [.int .i64] (encS (sput (f t) K))]⟩) (fun i => S.length - i.1) ⟨0, by simp⟩ (Weak.of_keep [3,7,8,10,11,13,15,18,79,80,81,116,117] (by simp)) ?_
      rintro ⟨i, hi⟩
      simp only [iv, isv, bv, lsv]
      by_cases hli : i < S.length
      · have hwi : IntKind.i64.wrap ((i : Int) + 1) = ((i + 1 : Nat) : Int) := i64w (by omega) (by omega)
        have hli2 : i < X.length := by omega
        have hvw := hX i S[i] X[i] (List.getElem?_eq_getElem hli) (List.getElem?_eq_getElem hli2)
        generalize hv : S[i] = v at *
        generalize hxw : X[i] = w at *
        by_cases hv0 : v = 0
        · have hs : True := trivial
          repeat' first | (with_reducible first | refine q01 ?_ | refine q04 ?_ | refine q11 ?_ | refine q12 ?_ | refine q14 ?_) | (refine DT_regionM (id := 21) (nt := 157) 16 [0,1,2,3,6,7,8,9,10,11,12,13,14,15,17,18,19,20,28,76,79,80,81,82,109,116,117,118,135] mixed rfl (by kernel_rfl) ?_; simp -dsimp [hli, hli2, hwi, hv, hxw, hv0, hs]) | (with_reducible refine DT_regionE [0,1,2,3,6,7,8,9,10,11,12,13,14,15,17,18,19,20,28,76,79,80,81,82,109,116,117,118,135] ?_; simp -dsimp [hli, hli2, hwi, hv, hxw, hv0, hs]) | (refine DT_cond rfl (fun h => ?_) (fun h => ?_) <;> (try simp only [nrm] at h) <;> (try exact Bool.noConfusion h))
          all_goals try simp -dsimp [hli, hli2, hwi, hv, hxw, hv0, hs]
          all_goals try clear hs
          all_goals exact At.round ⟨i + 1, by omega⟩ (by simp; omega) (Weak.of_keep [3,7,8,10,11,13,15,18,79,80,81,116,117] (by simp))
        · have hvv : v = w := hvw.resolve_left hv0
          subst hvv
          have hs : True := trivial
          repeat' first | (with_reducible first | refine q01 ?_ | refine q04 ?_ | refine q11 ?_ | refine q12 ?_ | refine q14 ?_) | (refine DT_regionM (id := 21) (nt := 157) 16 [0,1,2,3,6,7,8,9,10,11,12,13,14,15,17,18,19,20,28,76,79,80,81,82,109,116,117,118,135] mixed rfl (by kernel_rfl) ?_; simp -dsimp [hli, hli2, hwi, hv, hxw, hv0, hs]) | (with_reducible refine DT_regionE [0,1,2,3,6,7,8,9,10,11,12,13,14,15,17,18,19,20,28,76,79,80,81,82,109,116,117,118,135] ?_; simp -dsimp [hli, hli2, hwi, hv, hxw, hv0, hs]) | (refine DT_cond rfl (fun h => ?_) (fun h => ?_) <;> (try simp only [nrm] at h) <;> (try exact Bool.noConfusion h))
          all_goals try simp -dsimp [hli, hli2, hwi, hv, hxw, hv0, hs]
          all_goals try clear hs
          all_goals exact At.round ⟨i + 1, by omega⟩ (by simp; omega) (Weak.of_keep [3,7,8,10,11,13,15,18,79,80,81,116,117] (by simp))
      · obtain rfl : i = S.length := by omega
        have hs : True := trivial
        repeat' first | (with_reducible first | refine q01 ?_ | refine q03 ?_ | refine q04 ?_ | refine q06 ?_ | refine q11 ?_ | refine q16 ?_) | (with_reducible refine DT_regionE [0,1,2,3,6,7,8,9,10,11,12,13,14,15,17,18,19,20,28,76,79,80,81,82,109,116,117,118,135] ?_; simp -dsimp [hli, hw, hs]) | (refine DT_cond rfl (fun h => ?_) (fun h => ?_) <;> (try simp only [nrm] at h) <;> (try exact Bool.noConfusion h))
        all_goals try simp -dsimp [hli, hw, hs]
        all_goals try clear hs
        all_goals exact At.round ⟨(k + 1, sput (f t) K), by omega, sput_nodup hK1, fun x => by rw [sput_mem, hK2, htk, List.map_append, List.mem_append]; simp⟩ (by simp only; omega) (Weak.of_keep [3,7,8,10,11,13,15,79,80,81] (by simp))
    · obtain rfl : k = T.length := by omega
      rw [List.take_length] at hK2
      have h9 := f8 K hK1 hK2
      have hs : True := trivial
      repeat' first | (with_reducible first | refine q01 ?_ | refine q03 ?_ | refine q06 ?_ | refine q11 ?_ | refine q16 ?_ | refine q17 ?_) | (with_reducible refine At.fn_ret (by simp -dsimp [hlt, g1, g2, g3, h9, f6, hs]; exact rfl) ?_) | (with_reducible refine DT_regionE [0,1,2,3,6,7,8,9,10,11,12,13,14,15,17,18,19,20,28,76,79,80,81,82,109,116,117,118,135] ?_; simp -dsimp [hlt, g1, g2, g3, h9, f6, hs]) | (refine DT_cond rfl (fun h => ?_) (fun h => ?_) <;> (try simp only [nrm] at h) <;> (try exact Bool.noConfusion h))
      all_goals try simp -dsimp [hlt, g1, g2, g3, h9, f6, hs]
      all_goals try clear hs
      all_goals rw [Bool.eq_iff_iff]; simp [f7]; omega
