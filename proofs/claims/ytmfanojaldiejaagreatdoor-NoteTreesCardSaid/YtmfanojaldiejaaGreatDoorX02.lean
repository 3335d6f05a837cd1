/- Part 31 of the proofs: laws and walks that hold without conditions beyond those that each theorem names. -/
import Derived.Test.YtmfanojaldiejaaGreatDoorB15
import Derived.Test.YtmfanojaldiejaaGreatDoorB19
import Derived.Test.YtmfanojaldiejaaGreatDoorB23
import Derived.Test.YtmfanojaldiejaaGreatDoorB25
import Derived.Test.YtmfanojaldiejaaGreatDoorB27
import Derived.Test.YtmfanojaldiejaaGreatDoorX01
set_option linter.all false
set_option linter.deprecated false
namespace Go.Proofs
open Go Go.Ab
theorem letter_known {n : Notes} (h0 : checkR n.reg = 0) (hok : allOk n) {d : Int} (hd : d ∈ nums n.reg) (s : List Int) (m : Int) : (findI n.reg d (letF n s d m)).isSome = true := by
  obtain ⟨z, hz, hzd⟩ := numsTo_from _ _ _ hd
  have hd0 : d ≠ 0 := by
    intro e
    have := check_rng h0 hz
    omega
  have h1 : 1 ≤ lastOf n.reg d := by
    have := (find_letter h0 d z.letter).1 ((find_iff n.reg d z.letter).2 ⟨z, hz, hzd, rfl⟩)
    omega
  unfold letF letterK
  split
  · exact (find_letter h0 d 1).2 ⟨by omega, h1⟩
  · rename_i hk
    obtain ⟨x, h1, h2⟩ := byK_draw n.notes (frcL s [] m n.notes) d (frcL s [] m n.notes).length (by omega)
    rw [h1]
    have h := hok _ x h1
    simp only [nkA, Bool.and_eq_true] at h
    have h4 := h.1.1.1.1.2
    unfold nk4 at h4
    split at h4
    · omega
    · rw [decide_eq_true_eq] at h4
      unfold atE at h4
      rw [if_neg (show ¬ checkR n.reg ≠ 0 by simp [h0])] at h4
      split at h4
      · rename_i hf
        rw [h2] at hf
        exact hf
      · omega
theorem letters_good {n : Notes} (R : RF n) (t : List Int) (m : Int) : lettersI n.reg (lettersK n t m) = true := by
  refine zip_good R.c (lettersK_len n t m) fun k h1 h2 => ?_
  have hd : (nums n.reg)[k]? = some (nums n.reg)[k] := List.getElem?_eq_getElem h1
  have he := lettersK_at (n := n) (t := t) (m := m) hd
  obtain ⟨h3, h4⟩ := List.getElem?_eq_some_iff.1 he
  rw [h4]
  exact letter_known R.c R.ok (List.getElem_mem h1) t m
theorem foldl_all {f : List Br → Itm → List Br} {P : Br → Prop} : ∀ (its : List Itm) (L : List Br), (∀ z ∈ its, ∀ L, (∀ b ∈ L, P b) → ∀ b ∈ f L z, P b) → (∀ b ∈ L, P b) → ∀ b ∈ its.foldl f L, P b
  | [], L, _, hL => hL
  | z :: its, L, h, hL => foldl_all its (f L z) (fun y hy => h y (by simp [hy])) (h z (by simp) L hL)
theorem growL_all {tk : Int → Issue} {S : Int → Prop} {P : Br → Prop} (hS : ∀ d, S d → (∀ dp c, P ⟨dp, (tk d).drawing, (tk d).letter, c⟩) ∧ ∀ z ∈ (tk d).items, S z.drawing) : ∀ (k : Nat) (dp : Int) (y : Itm) (L : List Br), S y.drawing → (∀ b ∈ L, P b) → ∀ b ∈ growL tk k dp y L, P b
  | 0, _, _, L, _, hL => hL
  | k + 1, dp, y, L, hy, hL => by
    rw [growL]
    split
    · exact hL
    · refine foldl_all _ _ (fun z hz L hL => growL_all hS k (dp + 1) z L ((hS _ hy).2 z hz) hL) fun b hb => ?_
      rcases List.mem_append.1 hb with hb | hb
      · exact hL b hb
      · rw [List.mem_singleton.1 hb]; exact (hS _ hy).1 _ _
def InT (tk : Int → Issue) (S : Int → Prop) : Nat → Int → Prop
  | 0, _ => True
  | k + 1, d => S d ∧ ∀ z ∈ (tk d).items, InT tk S k z.drawing
theorem InT.mono {tk : Int → Issue} {S S' : Int → Prop} (h : ∀ d, S d → S' d) : ∀ (k : Nat) (d : Int), InT tk S k d → InT tk S' k d
  | 0, _, _ => trivial
  | k + 1, _, hd => ⟨h _ hd.1, fun z hz => InT.mono h k _ (hd.2 z hz)⟩
theorem growL_in {tk : Int → Issue} {N : Int → Prop} (hN : ∀ d, N d → (tk d).drawing = d ∧ ∀ z ∈ (tk d).items, N z.drawing) : ∀ (k : Nat) (dp : Int) (y : Itm) (L : List Br), N y.drawing → (growL tk k dp y L).length ≤ 500 →
    (∀ b ∈ L, b ∈ growL tk k dp y L) ∧ InT tk (fun d => ∃ b ∈ growL tk k dp y L, b.drawing = d) k y.drawing
  | 0, _, _, L, _, _ => ⟨fun b hb => hb, trivial⟩
  | k + 1, dp, y, L, hy, hl => by
    have hfold : ∀ (its : List Itm) (L : List Br), (∀ z ∈ its, N z.drawing) → (its.foldl (fun L z => growL tk k (dp + 1) z L) L).length ≤ 500 →
        (∀ b ∈ L, b ∈ its.foldl (fun L z => growL tk k (dp + 1) z L) L) ∧ ∀ z ∈ its, InT tk (fun d => ∃ b ∈ its.foldl (fun L z => growL tk k (dp + 1) z L) L, b.drawing = d) k z.drawing := by
      intro its
      induction its with
      | nil => exact fun L _ _ => ⟨fun b hb => hb, fun z hz => by cases hz⟩
      | cons z its ih =>
        intro L hz hl
        rw [List.foldl_cons] at hl ⊢
        obtain ⟨a1, a2⟩ := ih (growL tk k (dp + 1) z L) (fun y hy => hz y (by simp [hy])) hl
        have hle := foldl_grow (fun L z => growL_len tk k (dp + 1) z L) its (growL tk k (dp + 1) z L)
        obtain ⟨b1, b2⟩ := growL_in hN k (dp + 1) z L (hz z (by simp)) (by omega)
        refine ⟨fun b hb => a1 b (b1 b hb), fun w hw => ?_⟩
        rcases List.mem_cons.1 hw with rfl | hw
        · exact b2.mono (fun d ⟨b, hb, e⟩ => ⟨b, a1 b hb, e⟩) _ _
        · exact a2 w hw
    have hE : growL tk (k + 1) dp y L = (tk y.drawing).items.foldl (fun L z => growL tk k (dp + 1) z L) (L ++ [⟨dp, (tk y.drawing).drawing, (tk y.drawing).letter, y.count⟩]) := by
      rw [growL, if_neg]
      intro h5
      rw [growL, if_pos h5] at hl; omega
    rw [hE] at hl ⊢
    obtain ⟨a1, a2⟩ := hfold _ _ (hN _ hy).2 hl
    exact ⟨fun b hb => a1 b (by simp [hb]), ⟨_, a1 _ (by simp; exact .inr rfl), (hN _ hy).1⟩, a2⟩
theorem leaves_congr {ta tb : Int → Issue} {S : Int → Prop} (h : ∀ d, S d → ta d = tb d) : ∀ (k : Nat) (d m : Int), InT ta S k d → leavesF ta k d m = leavesF tb k d m
  | 0, _, _, _ => rfl
  | k + 1, d, m, hd => by
    have e := h d hd.1
    have ih : ∀ z ∈ (ta d).items, leavesF ta k z.drawing (IntKind.i64.wrap (m * z.count)) = leavesF tb k z.drawing (IntKind.i64.wrap (m * z.count)) := fun z hz => leaves_congr h k _ _ (hd.2 z hz)
    have e1 : leavesF ta (k + 1) d m = if 1 < (ta d).kind then [(d, m)] else (ta d).items.flatMap fun y => leavesF ta k y.drawing (IntKind.i64.wrap (m * y.count)) := rfl
    have e2 : leavesF tb (k + 1) d m = if 1 < (tb d).kind then [(d, m)] else (tb d).items.flatMap fun y => leavesF tb k y.drawing (IntKind.i64.wrap (m * y.count)) := rfl
    rw [e1, e2, ← e]
    split
    · rfl
    · rw [List.flatMap_def, List.flatMap_def, List.map_congr_left ih]
def letAt (l : List Issue) (lets : List Int) (d : Int) : Int := (lets[(idx (nums l) d).toNat]?).getD 0
theorem tree_law {l : List Issue} {A B : List Int} {d : Int} (h0 : checkR l = 0) (hA : lettersI l A = true) (hB : lettersI l B = true) (hd : d ∈ nums l) (hl : (treeL l A d).length ≤ 500) :
    (∀ x ∈ treeL l A d, ∃ i : Nat, (nums l)[i]? = some x.drawing ∧ A[i]? = some x.letter ∧ idx (nums l) x.drawing = i) ∧ ((∀ x ∈ treeL l A d, letAt l A x.drawing = letAt l B x.drawing) → explR l A d = explR l B d) := by
  obtain ⟨dep, hdep⟩ := dep_spec h0
  have hnd : (nums l).Nodup := (check_nums h0).1.imp fun h => Int.ne_of_lt h
  have hcl : ∀ d, d ∈ nums l → ∀ z ∈ (takeI l A d).items, z.drawing ∈ nums l := fun d hd z hz => ((hdep d hd).2.2 _ (take_items h0 hA hd z hz)).1
  refine ⟨?_, fun hag => ?_⟩
  · refine growL_all (S := fun d => d ∈ nums l) (P := fun x => ∃ i : Nat, (nums l)[i]? = some x.drawing ∧ A[i]? = some x.letter ∧ idx (nums l) x.drawing = i) (fun d hd => ⟨fun dp c => ?_, hcl d hd⟩) 6 0 ⟨d, 1⟩ [] hd (fun b hb => by cases hb)
    obtain ⟨_, e, k, lt, h1, h2, h3⟩ := take_spec h0 hA hd
    have h4 := find_some h3
    refine ⟨k, by rw [h1]; simp [e], by rw [h2]; simp [h4.2.2], by show idx (nums l) (takeI l A d).drawing = k; rw [e]; exact idx_at hnd h1⟩
  · have h1 := (growL_in (tk := takeI l A) (N := fun d => d ∈ nums l) (fun d hd => ⟨(take_spec h0 hA hd).2.1, hcl d hd⟩) 6 0 ⟨d, 1⟩ [] hd hl).2
    have h2 : ∀ d', (∃ b ∈ treeL l A d, b.drawing = d') → takeI l A d' = takeI l B d' := by
      rintro d' ⟨b, hb, rfl⟩
      have := hag b hb
      unfold letAt at this
      unfold takeI
      rw [this]
    have h3 : leavesF (takeI l A) 6 d 1 = leavesF (takeI l B) 6 d 1 := leaves_congr h2 6 d 1 h1
    have e1 : takenE l A d = 0 := by simp [takenE, h0, hA, hd]
    have e2 : takenE l B d = 0 := by simp [takenE, h0, hB, hd]
    unfold explR cntM
    rw [e1, e2, h3]
end Go.Proofs
namespace Go.Proofs
open Go Go.Ab
variable {G : Nat → Option (List IC)}
def difB' (l : List Issue) (A B : List Int) (T : List Br) (k : Nat) : Bool := (T.take k).any fun x => decide (letAt l A x.drawing ≠ letAt l B x.drawing)
theorem difB'_succ {l : List Issue} {A B : List Int} {T : List Br} {k : Nat} {x : Br} (h : T[k]? = some x) : difB' l A B T (k + 1) = (difB' l A B T k || decide (letAt l A x.drawing ≠ letAt l B x.drawing)) := by
  obtain ⟨h1, h2⟩ := List.getElem?_eq_some_iff.1 h
  unfold difB'
  rw [List.take_succ_eq_append_getElem h1, List.any_append, h2]; simp
set_option maxRecDepth 100000 in
set_option maxHeartbeats 8000000 in
theorem noteTrees_c (n : Notes) (b m1 m2 d : Nat) (hG : sheetG G) (hN : noteG G) (hS : SortOk G) (hk : NKind n) (hb : b < 256) (hm1 : m1 < 65536) (hm2 : m2 < 65536) (hd : d < 256) (objs : List DObj) : DCall Tryz.prog G 11 [notesv n, u8V (b : Int), u16v (m1 : Int), u16v (m2 : Int), u8V (d : Int)] objs (fun rr objs' => rr = bv true ∧ objs' = objs) := by
  refine DCall.frame ?_ (by simp) (by simp) objs
  refine DCall_intro Tryz.func11 rfl Tryz.ntmps11 (by simp) rfl ?_
  try simp only [notesv]
  have c1 := alive_c hG hN hS
  have c2 := ready_c (G := G) n hk
  cases hq : readyB n
  · rw [hq] at c2
    have hs : True := trivial
    repeat' first | (with_reducible first | refine q01 ?_ | refine q02 ?_ | refine q11 ?_ | refine q17 ?_) | (with_reducible refine At.fn_ret (by simp -dsimp [hs]; exact rfl) ?_) | (refine CallE.pure (c1) ?_; try simp -dsimp [hs]) | (refine CallE.pure (c2) ?_; try simp -dsimp [hs]) | (with_reducible refine DT_regionE [0,1,2,3,4,5,10,11,12,13,15,16,17,18,19,20,21,22,23,24,25,26,28,29,37,84,106,116,125,126,127,128,151] ?_; simp -dsimp [hs]) | (refine DT_cond rfl (fun h => ?_) (fun h => ?_) <;> (try simp only [nrm] at h) <;> (try exact Bool.noConfusion h))
    all_goals try simp -dsimp [hs]
    all_goals try clear hs
  · have R := readyRF hk hq
    rw [hq] at c2
    have c3 := truthOf_c (G := G) n b R.s R.ok (by rw [← isortL]; exact R.o5) hb
    have c4 := machineOf_c (G := G) m1 hm1
    have c5 := machineOf_c (G := G) m2 hm2
    have c6 := drawingOf_c (G := G) n.reg d (by have := R.s.1.1; omega) R.ne hd
    rw [← truthAt'] at c3
    have hsub := R.sub b
    have hsl := R.len b
    generalize truthAt' n b = t at *
    have hM1 : 1 ≤ ((m1 % 999 + 1 : Nat) : Int) ∧ ((m1 % 999 + 1 : Nat) : Int) ≤ 999 := by omega
    generalize ((m1 % 999 + 1 : Nat) : Int) = M1 at *
    have hM2 : 1 ≤ ((m2 % 999 + 1 : Nat) : Int) ∧ ((m2 % 999 + 1 : Nat) : Int) ≤ 999 := by omega
    generalize ((m2 % 999 + 1 : Nat) : Int) = M2 at *
    have hat : d % (nums n.reg).length < (nums n.reg).length := Nat.mod_lt _ (by have := R.ne; cases h : nums n.reg <;> simp_all)
    generalize d % (nums n.reg).length = a at *
    have hD : (nums n.reg)[a]? = some ((nums n.reg).getD a 0) := by simp [hat]
    have hDm := List.mem_of_getElem? hD
    generalize (nums n.reg).getD a 0 = D at *
    have c7 := nLetters_c (G := G) n t M1 hG hN hS R.s hsl
    have c8 := nLetters_c (G := G) n t M2 hG hN hS R.s hsl
    rw [R.asked hsub hM1.1 hM1.2, if_pos rfl, letters_eq] at c7
    rw [R.asked hsub hM2.1 hM2.2, if_pos rfl, letters_eq] at c8
    have hlA := letters_good R t M1
    have hlB := letters_good R t M2
    have hA := lettersK_len n t M1
    have hB := lettersK_len n t M2
    have hn60 := R.n60
    generalize lettersK n t M1 = A at *
    generalize lettersK n t M2 = B at *
    have hrl := R.s.1.1
    have c9 := letters_c (G := G) n.reg A (by omega) (by omega)
    have c10 := letters_c (G := G) n.reg B (by omega) (by omega)
    rw [hlA] at c9
    rw [hlB] at c10
    have hsr : SmallR n.reg := R.s.1
    have e1 : takenE n.reg A D = 0 := by simp [takenE, R.c, hlA, hDm]
    have e2 : takenE n.reg B D = 0 := by simp [takenE, R.c, hlB, hDm]
    have c11 := explode_c (G := G) n.reg A D hG hsr (by omega)
    have c12 := explode_c (G := G) n.reg B D hG hsr (by omega)
    rw [e1] at c11
    rw [e2] at c12
    have c13 := tree_c (G := G) n.reg A D hG hsr (by omega)
    have hTE : treeE n.reg A D = if 500 < (treeL n.reg A D).length then 4 else 0 := by unfold treeE; rw [if_neg (by simp [e1])]
    have hTR : treeR n.reg A D = if 500 < (treeL n.reg A D).length then [] else treeL n.reg A D := by
      unfold treeR; rw [hTE]
      split <;> simp
    rw [hTE, hTR] at c13
    have hlaw := fun h => tree_law R.c hlA hlB hDm h
    have hxl : ∀ X, (explR n.reg X D).length ≤ n.reg.length := fun X => by
      unfold explR
      split
      · unfold partsP
        rw [List.length_map]
        exact Nat.le_trans (List.length_filter_le _ _) (numsTo_length n.reg n.reg.length)
      · simp
    have hx1 := hxl A
    have c14 := sameItems_c (G := G) (explR n.reg A D) (explR n.reg B D) (by omega)
    have c15 := numbers_c (G := G) n.reg (by omega)
    have c16 := fun x => index_c (G := G) (nums n.reg) x (by omega)
    have hTt : (treeL n.reg A D).length ≤ 501 := growL_top _ _ _ _ _ (by simp)
    simp only [itv] at c14
    generalize explR n.reg A D = E1 at *
    generalize explR n.reg B D = E2 at *
    generalize treeL n.reg A D = T at *
    clear hG hN hS hsub R hlA hlB hDm hD hTE hTR e1 e2 hxl
    by_cases h5 : 500 < T.length
    · rw [if_pos h5, if_pos h5] at c13
      simp only [List.map_nil] at c13
      have hs : True := trivial
      repeat' first | (with_reducible first | refine q01 ?_ | refine q02 ?_ | refine q11 ?_ | refine q14 ?_ | refine q17 ?_) | (with_reducible refine At.fn_ret (by simp -dsimp [hs]; exact rfl) ?_) | (refine CallE.pure (c1) ?_; try simp -dsimp [hs]) | (refine CallE.pure (c2) ?_; try simp -dsimp [hs]) | (refine CallE.pure (c3) ?_; try simp -dsimp [hs]) | (refine QCall_pure (c4) ?_; try simp -dsimp [hs]) | (refine QCall_pure (c5) ?_; try simp -dsimp [hs]) | (refine CallE.pure (c6) ?_; try simp -dsimp [hs]) | (refine QCall_pure (c7) ?_; try simp -dsimp [hs]) | (refine QCall_pure (c8) ?_; try simp -dsimp [hs]) | (refine CallE.pure (c9) ?_; try simp -dsimp [hs]) | (refine CallE.pure (c10) ?_; try simp -dsimp [hs]) | (refine CallE.pure (c11) ?_; try simp -dsimp [hs]) | (refine CallE.pure (c12) ?_; try simp -dsimp [hs]) | (refine CallE.pure (c13) ?_; try simp -dsimp [hs]) | (refine DT_regionM (id := 6) (nt := 174) 10 [0,1,2,3,4,5,10,11,12,13,15,16,17,18,19,20,21,22,23,24,25,26,28,29,37,84,106,116,125,126,127,128,151] mixed rfl (by kernel_rfl) ?_; simp -dsimp [hs]) | (refine DT_regionM (id := 7) (nt := 174) 10 [0,1,2,3,4,5,10,11,12,13,15,16,17,18,19,20,21,22,23,24,25,26,28,29,37,84,106,116,125,126,127,128,151] mixed rfl (by kernel_rfl) ?_; simp -dsimp [hs]) | (with_reducible refine DT_regionE [0,1,2,3,4,5,10,11,12,13,15,16,17,18,19,20,21,22,23,24,25,26,28,29,37,84,106,116,125,126,127,128,151] ?_; simp -dsimp [hs]) | (refine DT_cond rfl (fun h => ?_) (fun h => ?_) <;> (try simp only [nrm] at h) <;> (try exact Bool.noConfusion h))
      all_goals try simp -dsimp [hs]
      all_goals try clear hs
    · rw [if_neg h5, if_neg h5] at c13
      obtain ⟨f1, f2⟩ := hlaw (by omega)
      clear hlaw
      generalize hNN : nums n.reg = N at *
      have hs : True := trivial
      repeat' first | (with_reducible first | refine q01 ?_ | refine q11 ?_ | refine q12 ?_ | refine q14 ?_) | (refine CallE.pure (c1) ?_; try simp -dsimp [hs]) | (refine CallE.pure (c2) ?_; try simp -dsimp [hs]) | (refine CallE.pure (c3) ?_; try simp -dsimp [hs]) | (refine QCall_pure (c4) ?_; try simp -dsimp [hs]) | (refine QCall_pure (c5) ?_; try simp -dsimp [hs]) | (refine CallE.pure (c6) ?_; try simp -dsimp [hs]) | (refine QCall_pure (c7) ?_; try simp -dsimp [hs]) | (refine QCall_pure (c8) ?_; try simp -dsimp [hs]) | (refine CallE.pure (c9) ?_; try simp -dsimp [hs]) | (refine CallE.pure (c10) ?_; try simp -dsimp [hs]) | (refine CallE.pure (c11) ?_; try simp -dsimp [hs]) | (refine CallE.pure (c12) ?_; try simp -dsimp [hs]) | (refine CallE.pure (c13) ?_; try simp -dsimp [hs]) | (refine CallE.pure (c15) ?_; try simp -dsimp [hs]) | (refine DT_regionM (id := 6) (nt := 174) 10 [0,1,2,3,4,5,10,11,12,13,15,16,17,18,19,20,21,22,23,24,25,26,28,29,37,84,106,116,125,126,127,128,151] mixed rfl (by kernel_rfl) ?_; simp -dsimp [hs]) | (refine DT_regionM (id := 7) (nt := 174) 10 [0,1,2,3,4,5,10,11,12,13,15,16,17,18,19,20,21,22,23,24,25,26,28,29,37,84,106,116,125,126,127,128,151] mixed rfl (by kernel_rfl) ?_; simp -dsimp [hs]) | (with_reducible refine DT_regionE [0,1,2,3,4,5,10,11,12,13,15,16,17,18,19,20,21,22,23,24,25,26,28,29,37,84,106,116,125,126,127,128,151] ?_; simp -dsimp [hs]) | (refine DT_cond rfl (fun h => ?_) (fun h => ?_) <;> (try simp only [nrm] at h) <;> (try exact Bool.noConfusion h))
      all_goals try simp -dsimp [hs]
      all_goals try clear hs
      refine DT_loop (ι := { k : Nat // k ≤ T.length }) (fun p => ⟨174, [(11, bv true), (15, isv A), (17, isv B), (19, itv E1), (21, itv E2), (25, bv (difB' n.reg A B T p.1)), (26, isv N), (125, .one (.im (.sl (T.map encBr)))), (126, iv (T.length : Int)), (127, iv (p.1 : Int))], []⟩) (fun p => T.length - p.1) ⟨0, by simp⟩ (Weak.of_drop [11,15,17,19,21,25,26,125,126,127] 0 (by simp) (by simp) (by simp [difB', itv])) ?_
      rintro ⟨k, hk⟩
      simp only [iv, isv, bv, itv]
      by_cases hlt : k < T.length
      · have hw : IntKind.i64.wrap ((k : Int) + 1) = ((k + 1 : Nat) : Int) := i64w (by omega) (by omega)
        have hx : T[k]? = some T[k] := List.getElem?_eq_getElem hlt
        have hsu := difB'_succ (l := n.reg) (A := A) (B := B) hx
        obtain ⟨i, g1, g2, g3⟩ := f1 T[k] (List.getElem_mem hlt)
        generalize hxe : T[k] = x at *
        have d1 := c16 x.drawing
        rw [g3] at d1
        have hiN := lt_of_getElem? g1
        have hiA : i < A.length := by omega
        have hiB : i < B.length := by omega
        have hBi : B[i]? = some B[i] := List.getElem?_eq_getElem hiB
        have hA2 : letAt n.reg A x.drawing = x.letter := by unfold letAt; rw [hNN, g3]; simp [g2]
        have hB2 : letAt n.reg B x.drawing = B[i] := by unfold letAt; rw [hNN, g3]; simp [hiB]
        obtain ⟨_, g4⟩ := List.getElem?_eq_some_iff.1 g2
        rw [hA2, hB2] at hsu
        generalize hbe : B[i] = z at *
        have hAi : (i : Int) < A.length := by omega
        have hAi2 : ¬ A.length ≤ i := by omega
        have hi0 : ¬ (i : Int) < 0 := by omega
        generalize difB' n.reg A B T k = v at *
        cases v
        · by_cases hxz : x.letter = z
          · have hsu2 : difB' n.reg A B T (k + 1) = false := by rw [hsu]; simp [hxz]
            have hs : True := trivial
            repeat' first | (with_reducible first | refine q01 ?_ | refine q04 ?_ | refine q11 ?_ | refine q12 ?_ | refine q14 ?_) | (refine CallE.pure (d1) ?_; try simp -dsimp [hlt, hw, hx, hxe, hiA, hiB, hBi, g2, g4, hbe, hAi, hAi2, hi0, hxz, hs]) | (refine DT_regionM (id := 23) (nt := 174) 17 [0,1,2,3,4,5,10,11,12,13,15,16,17,18,19,20,21,22,23,24,25,26,28,29,37,84,106,116,125,126,127,128,151] mixed rfl (by kernel_rfl) ?_; simp -dsimp [hlt, hw, hx, hxe, hiA, hiB, hBi, g2, g4, hbe, hAi, hAi2, hi0, hxz, hs]) | (refine DT_regionM (id := 25) (nt := 174) 13 [0,1,2,3,4,5,10,11,12,13,15,16,17,18,19,20,21,22,23,24,25,26,28,29,37,84,106,116,125,126,127,128,151] mixed rfl (by kernel_rfl) ?_; simp -dsimp [hlt, hw, hx, hxe, hiA, hiB, hBi, g2, g4, hbe, hAi, hAi2, hi0, hxz, hs]) | (with_reducible refine DT_regionE [0,1,2,3,4,5,10,11,12,13,15,16,17,18,19,20,21,22,23,24,25,26,28,29,37,84,106,116,125,126,127,128,151] ?_; simp -dsimp [hlt, hw, hx, hxe, hiA, hiB, hBi, g2, g4, hbe, hAi, hAi2, hi0, hxz, hs]) | (refine DT_cond rfl (fun h => ?_) (fun h => ?_) <;> (try simp only [nrm] at h) <;> (try exact Bool.noConfusion h))
            all_goals try simp -dsimp [hlt, hw, hx, hxe, hiA, hiB, hBi, g2, g4, hbe, hAi, hAi2, hi0, hxz, hs]
            all_goals try clear hs
            all_goals exact At.round ⟨k + 1, by omega⟩ (by simp; omega) (Weak.of_drop [11,15,17,19,21,25,26,125,126,127] 0 (by simp) (by simp) (by simp [hsu2]))
          · have hsu2 : difB' n.reg A B T (k + 1) = true := by rw [hsu]; simp [hxz]
            have hs : True := trivial
            repeat' first | (with_reducible first | refine q01 ?_ | refine q04 ?_ | refine q11 ?_ | refine q12 ?_ | refine q14 ?_) | (refine CallE.pure (d1) ?_; try simp -dsimp [hlt, hw, hx, hxe, hiA, hiB, hBi, g2, g4, hbe, hAi, hAi2, hi0, hxz, hs]) | (refine DT_regionM (id := 23) (nt := 174) 17 [0,1,2,3,4,5,10,11,12,13,15,16,17,18,19,20,21,22,23,24,25,26,28,29,37,84,106,116,125,126,127,128,151] mixed rfl (by kernel_rfl) ?_; simp -dsimp [hlt, hw, hx, hxe, hiA, hiB, hBi, g2, g4, hbe, hAi, hAi2, hi0, hxz, hs]) | (refine DT_regionM (id := 25) (nt := 174) 13 [0,1,2,3,4,5,10,11,12,13,15,16,17,18,19,20,21,22,23,24,25,26,28,29,37,84,106,116,125,126,127,128,151] mixed rfl (by kernel_rfl) ?_; simp -dsimp [hlt, hw, hx, hxe, hiA, hiB, hBi, g2, g4, hbe, hAi, hAi2, hi0, hxz, hs]) | (with_reducible refine DT_regionE [0,1,2,3,4,5,10,11,12,13,15,16,17,18,19,20,21,22,23,24,25,26,28,29,37,84,106,116,125,126,127,128,151] ?_; simp -dsimp [hlt, hw, hx, hxe, hiA, hiB, hBi, g2, g4, hbe, hAi, hAi2, hi0, hxz, hs]) | (refine DT_cond rfl (fun h => ?_) (fun h => ?_) <;> (try simp only [nrm] at h) <;> (try exact Bool.noConfusion h))
            all_goals try simp -dsimp [hlt, hw, hx, hxe, hiA, hiB, hBi, g2, g4, hbe, hAi, hAi2, hi0, hxz, hs]
            all_goals try clear hs
            all_goals exact At.round ⟨k + 1, by omega⟩ (by simp; omega) (Weak.of_drop [11,15,17,19,21,25,26,125,126,127] 0 (by simp) (by simp) (by simp [hsu2]))
        · have hsu2 : difB' n.reg A B T (k + 1) = true := by rw [hsu]; simp
          have hs : True := trivial
          repeat' first | (with_reducible first | refine q01 ?_ | refine q04 ?_ | refine q11 ?_ | refine q12 ?_ | refine q14 ?_) | (refine CallE.pure (d1) ?_; try simp -dsimp [hlt, hw, hx, hxe, hiA, hiB, hBi, g2, g4, hbe, hAi, hAi2, hi0, hs]) | (refine DT_regionM (id := 23) (nt := 174) 17 [0,1,2,3,4,5,10,11,12,13,15,16,17,18,19,20,21,22,23,24,25,26,28,29,37,84,106,116,125,126,127,128,151] mixed rfl (by kernel_rfl) ?_; simp -dsimp [hlt, hw, hx, hxe, hiA, hiB, hBi, g2, g4, hbe, hAi, hAi2, hi0, hs]) | (refine DT_regionM (id := 25) (nt := 174) 13 [0,1,2,3,4,5,10,11,12,13,15,16,17,18,19,20,21,22,23,24,25,26,28,29,37,84,106,116,125,126,127,128,151] mixed rfl (by kernel_rfl) ?_; simp -dsimp [hlt, hw, hx, hxe, hiA, hiB, hBi, g2, g4, hbe, hAi, hAi2, hi0, hs]) | (with_reducible refine DT_regionE [0,1,2,3,4,5,10,11,12,13,15,16,17,18,19,20,21,22,23,24,25,26,28,29,37,84,106,116,125,126,127,128,151] ?_; simp -dsimp [hlt, hw, hx, hxe, hiA, hiB, hBi, g2, g4, hbe, hAi, hAi2, hi0, hs]) | (refine DT_cond rfl (fun h => ?_) (fun h => ?_) <;> (try simp only [nrm] at h) <;> (try exact Bool.noConfusion h))
          all_goals try simp -dsimp [hlt, hw, hx, hxe, hiA, hiB, hBi, g2, g4, hbe, hAi, hAi2, hi0, hs]
          all_goals try clear hs
          all_goals exact At.round ⟨k + 1, by omega⟩ (by simp; omega) (Weak.of_drop [11,15,17,19,21,25,26,125,126,127] 0 (by simp) (by simp) (by simp [hsu2]))
      · obtain rfl : k = T.length := by omega
        cases hv : difB' n.reg A B T T.length
        · have hE : E1 = E2 := f2 fun x hx => by
            unfold difB' at hv
            rw [List.take_length, List.any_eq_false] at hv
            simpa using hv x hx
          rw [decide_eq_true hE] at c14
          have hs : True := trivial
          repeat' first | (with_reducible first | refine q01 ?_ | refine q03 ?_ | refine q06 ?_ | refine q11 ?_ | refine q16 ?_ | refine q17 ?_) | (with_reducible refine At.fn_ret (by simp -dsimp [hlt, hs]; exact rfl) ?_) | (refine CallE.pure (c14) ?_; try simp -dsimp [hlt, hs]) | (with_reducible refine DT_regionE [0,1,2,3,4,5,10,11,12,13,15,16,17,18,19,20,21,22,23,24,25,26,28,29,37,84,106,116,125,126,127,128,151] ?_; simp -dsimp [hlt, hs]) | (refine DT_cond rfl (fun h => ?_) (fun h => ?_) <;> (try simp only [nrm] at h) <;> (try exact Bool.noConfusion h))
          all_goals try simp -dsimp [hlt, hs]
          all_goals try clear hs
        · have hs : True := trivial
          repeat' first | (with_reducible first | refine q01 ?_ | refine q03 ?_ | refine q06 ?_ | refine q11 ?_ | refine q16 ?_ | refine q17 ?_) | (with_reducible refine At.fn_ret (by simp -dsimp [hlt, hs]; exact rfl) ?_) | (with_reducible refine DT_regionE [0,1,2,3,4,5,10,11,12,13,15,16,17,18,19,20,21,22,23,24,25,26,28,29,37,84,106,116,125,126,127,128,151] ?_; simp -dsimp [hlt, hs]) | (refine DT_cond rfl (fun h => ?_) (fun h => ?_) <;> (try simp only [nrm] at h) <;> (try exact Bool.noConfusion h))
          all_goals try simp -dsimp [hlt, hs]
          all_goals try clear hs
end Go.Proofs
