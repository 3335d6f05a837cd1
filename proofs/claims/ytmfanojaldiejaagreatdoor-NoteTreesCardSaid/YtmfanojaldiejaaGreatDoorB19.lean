/- Part 19 of the proofs: laws and walks that hold without conditions beyond those that each theorem names. -/
import Derived.Test.YtmfanojaldiejaaGreatDoorB17
import Derived.Test.YtmfanojaldiejaaGreatDoorB18
set_option linter.all false
set_option linter.deprecated false
namespace Go.Proofs
open Go Go.Ab
variable {G : Nat → Option (List IC)}
def Rp (l : List Issue) (r : Nat) (pre : List Issue) (n : Int) : Int := if pre.any (fun x => decide (x.drawing = n)) then 1 + mx (Rr l r) (chI pre n) else 0
def Rq (l : List Issue) (r : Nat) (v : Int) (ys : List Itm) : Int := max (max v 1) (1 + mx (Rr l r) (ys.map (·.drawing)))
theorem mx_append (f : Int → Int) (a b : List Int) : mx f (a ++ b) = max (mx f a) (mx f b) := by
  rw [mx, List.foldl_append]
  exact mx_foldl f b _ (mx_nonneg f a)
theorem Rq_nil (l : List Issue) (r : Nat) (v : Int) : Rq l r v [] = max v 1 := by
  have : mx (Rr l r) [] = 0 := rfl
  simp only [Rq, List.map_nil, this]; omega
theorem Rq_snoc (l : List Issue) (r : Nat) (v : Int) (ys : List Itm) (y : Itm) : Rq l r v (ys ++ [y]) = max (Rq l r v ys) (1 + Rr l r y.drawing) := by
  have h := Rr_nonneg l r y.drawing
  have : mx (Rr l r) [y.drawing] = Rr l r y.drawing := by simp only [mx, List.foldl_cons, List.foldl_nil]; omega
  simp only [Rq, List.map_append, List.map_cons, List.map_nil, mx_append, this]; omega
theorem Rp_snoc (l : List Issue) (r : Nat) (pre : List Issue) (x : Issue) (n : Int) : Rp l r (pre ++ [x]) n = if n = x.drawing then Rq l r (Rp l r pre n) x.items else Rp l r pre n := by
  by_cases hn : n = x.drawing
  · subst hn
    rw [if_pos rfl]
    have hc : chI (pre ++ [x]) x.drawing = chI pre x.drawing ++ x.items.map (·.drawing) := by simp [chI, segI]
    have h1 := mx_nonneg (Rr l r) (chI pre x.drawing)
    have h2 := mx_nonneg (Rr l r) (x.items.map (·.drawing))
    unfold Rp
    rw [if_pos (by simp), hc, mx_append]
    unfold Rq
    split
    · omega
    · rename_i hp
      have : chI pre x.drawing = [] := by
        simp only [chI, segI]
        rw [List.filter_eq_nil_iff.2 fun y hy => ?_]
        · rfl
        · intro he; exact hp (List.any_eq_true.2 ⟨y, hy, he⟩)
      have h3 : mx (Rr l r) [] = 0 := rfl
      rw [this, h3]; omega
  · rw [if_neg hn]
    have hc : chI (pre ++ [x]) n = chI pre n := by simp [chI, segI, Ne.symm hn]
    unfold Rp
    rw [hc]
    simp [Ne.symm hn]
theorem Rp_full {l : List Issue} {n : Int} (r : Nat) (h : ∃ x ∈ l, x.drawing = n) : Rp l r l n = Rr l (r + 1) n := by
  unfold Rp
  obtain ⟨x, hx, he⟩ := h
  rw [if_pos (List.any_eq_true.2 ⟨x, hx, by simpa using he⟩)]; rfl
theorem issueOk_small {x : Issue} (h : issueOk x = true) : x.items.length ≤ 8 ∧ x.dims.length ≤ 4 := by
  simp only [issueOk, Bool.and_assoc] at h
  rw [← Bool.and_assoc, Bool.and_eq_true] at h
  have := (ck12_iff x).1 h.1; omega
theorem nums_mem {l : List Issue} {n : Int} (h : n ∈ nums l) : ∃ x ∈ l, x.drawing = n := by
  have gen : ∀ k, n ∈ numsTo l k → ∃ x ∈ l, x.drawing = n := by
    intro k
    induction k with
    | zero => intro h; cases h
    | succ k ih =>
      intro h
      simp only [numsTo] at h
      rcases List.mem_append.1 h with h | h
      · exact ih h
      · split at h
        · rename_i x hx
          split at h
          · rw [List.mem_singleton] at h
            exact ⟨x, List.mem_of_getElem? hx, h.symm⟩
          · cases h
        · cases h
  exact gen _ h
theorem listed_scan' {l : List Issue} (h : listedI l = true) : scanI none l = some (nums l) := by
  simp only [listedI, Bool.and_eq_true] at h
  obtain ⟨ds, hds⟩ := Option.isSome_iff_exists.1 h.1.1.2
  rw [hds, scan_nums hds]
theorem idx_at {l : List Int} (hn : l.Nodup) {k : Nat} {x : Int} (h : l[k]? = some x) : idx l x = k := by
  refine idx_yes h fun j hj he => ?_
  have h1 := (List.getElem?_eq_some_iff.1 h).1
  rw [← he] at h
  have := (List.getElem?_inj h1 hn).1 h
  omega
set_option maxHeartbeats 2000000 in
theorem rdepths_c (l : List Issue) (hl : listedI l = true) (objs : List DObj) : DCall Tryz.prog G 85 [regv l] objs (fun rr objs' => rr = isv (depthsL l) ∧ objs' = objs) := by
  refine DCall.frame ?_ (by simp) (by simp) objs
  refine DCall_intro Tryz.func85 rfl Tryz.ntmps85 (by simp) rfl ?_
  try simp only [regv]
  have hli := hl
  simp only [listedI, Bool.and_eq_true, decide_eq_true_eq, List.all_eq_true] at hli
  obtain ⟨⟨⟨⟨hl1, hl60⟩, hsc⟩, hitems⟩, hn20⟩ := hli
  have c1 := numbers_c (G := G) l (by omega)
  have hD : depthsL l = (nums l).map (Rr l ((nums l).length + 1)) := rfl
  obtain ⟨_, hlt', hmem, hok, _⟩ := scan_all (listed_scan' hl)
  have hnd : (nums l).Nodup := hlt'.imp fun h => Int.ne_of_lt h
  generalize hns : nums l = ns at *
  have hs : True := trivial
  repeat' first | (with_reducible first | refine q01 ?_ | refine q11 ?_ | refine q12 ?_ | refine And.intro (by omega) ?_) | (refine CallE.pure (c1) ?_; try simp -dsimp [hs]) | (with_reducible refine DT_regionE [0,1,2,3,4,5,6,7,8,9,10,19,29,53] ?_; simp -dsimp [hs])
  all_goals try simp -dsimp [hs]
  all_goals try clear hs
  refine DT_loop (ι := { r : Nat // r ≤ ns.length + 1 }) (fun p => ⟨78, [(1, .one (.ptr 0 0)), (3, isv ns), (4, isv (ns.map (Rr l p.1))), (5, iv (p.1 : Int))], [.row [.im (.sl (l.map encIssue))]]⟩) (fun p => ns.length + 1 - p.1) ⟨0, by omega⟩ (Weak.of_drop [1,3,4,5] 1 (by simp) (by simp) (by simp [map_rep (f := encI ∘ Rr l 0) (c := [rI 0]) (fun _ => rfl)])) ?_
  rintro ⟨r, hr⟩
  simp only [iv, isv]
  by_cases hrl : r ≤ ns.length
  · have hw : IntKind.i64.wrap ((r : Int) + 1) = ((r + 1 : Nat) : Int) := i64w (by omega) (by omega)
    have hs : True := trivial
    repeat' first | (with_reducible first | refine q01 ?_ | refine q11 ?_ | refine q12 ?_ | refine q14 ?_ | refine And.intro (by omega) ?_) | (with_reducible refine DT_regionE [0,1,2,3,4,5,6,7,8,9,10,19,29,53] ?_; simp -dsimp [hrl, hs]) | (refine DT_cond rfl (fun h => ?_) (fun h => ?_) <;> (try simp only [nrm] at h) <;> (try exact Bool.noConfusion h))
    all_goals try simp -dsimp [hrl, hs]
    all_goals try clear hs
    refine DT_loop (ι := { p : Nat × List Int // p.1 ≤ l.length ∧ p.2 = ns.map (Rp l r (l.take p.1)) }) (fun p => ⟨78, [(1, .one (.ptr 0 0)), (3, isv ns), (4, isv (ns.map (Rr l r))), (5, iv (r : Int)), (6, .one (.vec 1 0 0 ns.length)), (7, iv (p.1.1 : Int))], [.row [.im (.sl (l.map encIssue))], .vec 1 (ims (p.1.2.map encI)) 0 false]⟩) (fun p => l.length - p.1.1) ⟨(0, List.replicate ns.length 0), by omega, (map_rep (fun _ => rfl) ns).symm⟩ (Weak.of_keep [1,3,4,5,6,7] (by simp)) ?_
    rintro ⟨⟨i, L⟩, hi, hL⟩
    simp only at hi hL
    simp only [iv, isv]
    by_cases hlt : i < l.length
    · have hx : l[i]? = some l[i] := by simp [hlt]
      have hw1 : IntKind.i64.wrap ((i : Int) + 1) = ((i + 1 : Nat) : Int) := i64w (by omega) (by omega)
      obtain ⟨k, hk⟩ := List.mem_iff_getElem?.1 (hmem l[i] (List.getElem_mem hlt))
      have hkl := lt_of_getElem? hk
      have hidx := idx_at hnd hk
      have c2 := index_c (G := G) ns l[i].drawing (by omega)
      rw [hidx] at c2
      have hLk : L[k]? = some (Rp l r (l.take i) l[i].drawing) := by rw [hL, List.getElem?_map, hk]; rfl
      generalize hv : Rp l r (l.take i) l[i].drawing = v at hLk
      have hit := hitems l[i] (List.getElem_mem hlt)
      have hsm := (issueOk_small (hok l[i] (List.getElem_mem hlt))).1
      have hs : True := trivial
      repeat' first | (with_reducible first | refine q01 ?_ | refine q11 ?_ | refine q12 ?_ | refine q14 ?_) | (refine CallE.pure (c2) ?_; try simp -dsimp [hx, hw1, hlt, hkl, hLk, hs]) | (with_reducible refine DT_regionE [0,1,2,3,4,5,6,7,8,9,10,19,29,53] ?_; simp -dsimp [hx, hw1, hlt, hkl, hLk, hs]) | (refine DT_cond rfl (fun h => ?_) (fun h => ?_) <;> (try simp only [nrm] at h) <;> (try exact Bool.noConfusion h))
      all_goals try simp -dsimp [hx, hw1, hlt, hkl, hLk, hs]
      all_goals try clear hs
      refine DT_loop (ι := { p : Nat × List Int // p.1 ≤ l[i].items.length ∧ p.2 = L.set k (Rq l r v (l[i].items.take p.1)) }) (fun p => ⟨78, [(1, .one (.ptr 0 0)), (3, isv ns), (4, isv (ns.map (Rr l r))), (5, iv (r : Int)), (6, .one (.vec 1 0 0 ns.length)), (7, iv (i : Int)), (8, .one (.ptr 4 0)), (9, iv (k : Int)), (10, iv (p.1.1 : Int))], [.row [.im (.sl (l.map encIssue))], .vec 1 (ims (p.1.2.map encI)) 0 false, .vec 0 [] 0 true, .vec 0 [] 0 true, .row ((encIssue l[i]).map .im)]⟩) (fun p => l[i].items.length - p.1.1) ⟨(0, L.set k (max v 1)), by omega, by simp only [List.take_zero, Rq_nil]⟩ (Weak.of_keep [1,3,4,5,6,7,8,9,10] (by simp)) ?_
      rintro ⟨⟨u, L'⟩, hu, hL'⟩
      simp only at hu hL'
      simp only [iv, isv, encIssue, rI, List.map_cons, List.map_nil]
      have hkL : k < L.length := lt_of_getElem? hLk
      by_cases hlu : u < l[i].items.length
      · have hy : l[i].items[u]? = some l[i].items[u] := by simp [hlu]
        have hw2 : IntKind.i64.wrap ((u : Int) + 1) = ((u + 1 : Nat) : Int) := i64w (by omega) (by omega)
        obtain ⟨m, hm⟩ := List.mem_iff_getElem?.1 (hit l[i].items[u] (List.getElem_mem hlu))
        have hml := lt_of_getElem? hm
        have hmn : ns[m] = l[i].items[u].drawing := (List.getElem?_eq_some_iff.1 hm).2
        have hidx2 := idx_at hnd hm
        have c3 := index_c (G := G) ns l[i].items[u].drawing (by omega)
        rw [hidx2] at c3
        have hLk' : L'[k]? = some (Rq l r v (l[i].items.take u)) := by rw [hL', List.getElem?_set_self hkL]
        have hb1 := Rr_nonneg l r l[i].items[u].drawing
        have hb2 := Rr_le l r l[i].items[u].drawing
        have hw3 : IntKind.i64.wrap (1 + Rr l r l[i].items[u].drawing) = 1 + Rr l r l[i].items[u].drawing := i64w (by omega) (by omega)
        have hnext : L'.set k (max (Rq l r v (l[i].items.take u)) (1 + Rr l r l[i].items[u].drawing)) = L.set k (Rq l r v (l[i].items.take (u + 1))) := by
          rw [List.take_succ_eq_append_getElem hlu, Rq_snoc, hL', List.set_set]
        have hs : True := trivial
        repeat' first | (with_reducible first | refine q01 ?_ | refine q04 ?_ | refine q11 ?_ | refine q12 ?_ | refine q14 ?_) | (refine QCall_pure (c3) ?_; try simp -dsimp [hy, hw2, hlu, hkl, hLk', hm, hml, hmn, hw3, hs]) | (refine DT_regionM (id := 16) (nt := 78) 20 [0,1,2,3,4,5,6,7,8,9,10,19,29,53] mixed rfl (by kernel_rfl) ?_; simp -dsimp [hy, hw2, hlu, hkl, hLk', hm, hml, hmn, hw3, hs]) | (with_reducible refine DT_regionE [0,1,2,3,4,5,6,7,8,9,10,19,29,53] ?_; simp -dsimp [hy, hw2, hlu, hkl, hLk', hm, hml, hmn, hw3, hs]) | (refine DT_cond rfl (fun h => ?_) (fun h => ?_) <;> (try simp only [nrm] at h) <;> (try exact Bool.noConfusion h))
        all_goals try simp -dsimp [hy, hw2, hlu, hkl, hLk', hm, hml, hmn, hw3, hs]
        all_goals try clear hs
        exact At.round ⟨(u + 1, L'.set k (max (Rq l r v (l[i].items.take u)) (1 + Rr l r l[i].items[u].drawing))), by omega, hnext⟩ (by simp; omega) (Weak.of_keep [1,3,4,5,6,7,8,9,10] (by simp))
      · have hend : L' = ns.map (Rp l r (l.take (i + 1))) := by
          rw [hL', List.take_of_length_le (by omega), hL, map_set_at hnd hk]
          refine List.map_congr_left fun n _ => ?_
          rw [List.take_succ_eq_append_getElem hlt, Rp_snoc]
          split
          · rename_i e; rw [e, hv]
          · rfl
        have hs : True := trivial
        repeat' first | (with_reducible first | refine q01 ?_ | refine q03 ?_ | refine q04 ?_ | refine q06 ?_ | refine q11 ?_ | refine q16 ?_) | (with_reducible refine DT_regionE [0,1,2,3,4,5,6,7,8,9,10,19,29,53] ?_; simp -dsimp [hlu, hw1, hs]) | (refine DT_cond rfl (fun h => ?_) (fun h => ?_) <;> (try simp only [nrm] at h) <;> (try exact Bool.noConfusion h))
        all_goals try simp -dsimp [hlu, hw1, hs]
        all_goals try clear hs
        exact At.round ⟨(i + 1, L'), by omega, hend⟩ (by simp; omega) (Weak.of_drop [1,3,4,5,6,7] 2 (by simp) (by simp) (by simp))
    · have hend : L = ns.map (Rr l (r + 1)) := by
        rw [hL, List.take_of_length_le (by omega)]
        refine List.map_congr_left fun n hn => Rp_full r ?_
        rw [← hns] at hn
        exact nums_mem hn
      have hLn : L.length = ns.length := by rw [hL, List.length_map]
      have hs : True := trivial
      repeat' first | (with_reducible first | refine q01 ?_ | refine q03 ?_ | refine q04 ?_ | refine q06 ?_ | refine q11 ?_ | refine q16 ?_) | (with_reducible refine DT_regionE [0,1,2,3,4,5,6,7,8,9,10,19,29,53] ?_; simp -dsimp [hlt, hw, hs]) | (refine DT_cond rfl (fun h => ?_) (fun h => ?_) <;> (try simp only [nrm] at h) <;> (try exact Bool.noConfusion h))
      all_goals try simp -dsimp [hlt, hw, hs]
      all_goals try clear hs
      exact At.round ⟨r + 1, by omega⟩ (by simp; omega) (Weak.of_drop [1,3,4,5] 1 (by simp) (by simp) (by simp [← hLn]; rw [hend]; simp))
  · have hs : True := trivial
    repeat' first | (with_reducible first | refine q01 ?_ | refine q03 ?_ | refine q06 ?_ | refine q11 ?_ | refine q16 ?_ | refine q17 ?_) | (with_reducible refine At.fn_ret (by simp -dsimp [hrl, hs]; exact rfl) ?_) | (with_reducible refine DT_regionE [0,1,2,3,4,5,6,7,8,9,10,19,29,53] ?_; simp -dsimp [hrl, hs]) | (refine DT_cond rfl (fun h => ?_) (fun h => ?_) <;> (try simp only [nrm] at h) <;> (try exact Bool.noConfusion h))
    all_goals try simp -dsimp [hrl, hs]
    all_goals try clear hs
    have hr1 : r = ns.length + 1 := by omega
    rw [hD, hr1]; simp
end Go.Proofs
namespace Go.Proofs
open Go Go.Ab
variable {G : Nat → Option (List IC)}
theorem scan_iff0 (x : Issue) (r : List Issue) : (scanI none (x :: r)).isSome = true ↔ (issueOk x = true ∧ x.letter = 1) ∧ (scanI (some x) r).isSome = true := by
  simp only [scanI]
  by_cases h1 : issueOk x = false
  · simp [h1]
  · by_cases h2 : x.letter = 1
    · simp [h1, h2]
    · simp [h1, h2]
theorem scan_iff1 (y x : Issue) (r : List Issue) : (scanI (some y) (x :: r)).isSome = true ↔ (issueOk x = true ∧ (y.drawing = x.drawing ∧ y.letter + 1 = x.letter ∧ y.kind = x.kind ∨ y.drawing < x.drawing ∧ x.letter = 1)) ∧ (scanI (some x) r).isSome = true := by
  simp only [scanI]
  by_cases h1 : issueOk x = false
  · simp [h1]
  · have h1' : issueOk x = true := by simpa using h1
    by_cases hd : y.drawing = x.drawing
    · have hlt : ¬ x.drawing < x.drawing := by omega
      by_cases h2 : y.letter + 1 = x.letter <;> by_cases h3 : y.kind = x.kind <;> simp [h1', hd, h2, h3]
    · by_cases hg : y.drawing > x.drawing
      · have : ¬ y.drawing < x.drawing := by omega
        simp [h1', hd, hg, this]
      · have : y.drawing < x.drawing := by omega
        by_cases h2 : x.letter = 1 <;> simp [h1', hd, hg, h2, this]
theorem idx_neg {l : List Int} {x : Int} (h : x ∉ l) : idx l x = -1 := idx_no fun j _ he => h (List.mem_of_getElem? he)
theorem idx_nonneg {l : List Int} {x : Int} (h : x ∈ l) : 0 ≤ idx l x := by
  unfold idx
  cases hh : l.idxOf? x with
  | none =>
    rw [List.idxOf?, List.findIdx?_eq_none_iff] at hh
    have := hh x h; simp at this
  | some i => simp
theorem idx_mem (l : List Int) (x : Int) : idx l x < 0 ↔ x ∉ l := by
  constructor
  · intro h hm; have := idx_nonneg hm; omega
  · intro h; rw [idx_neg h]; omega
theorem listed_false1 {l : List Issue} (h : (scanI none l).isSome = false) : listedI l = false := by simp [listedI, h]
set_option maxHeartbeats 2000000 in
theorem listed_c (l : List Issue) (hs : SmallR l) (objs : List DObj) : DCall Tryz.prog G 84 [regv l] objs (fun rr objs' => rr = bv (listedI l) ∧ objs' = objs) := by
  refine DCall.frame ?_ (by simp) (by simp) objs
  refine DCall_intro Tryz.func84 rfl Tryz.ntmps84 (by simp) rfl ?_
  try simp only [regv]
  have hl80 := hs.1
  by_cases hrange : 1 ≤ l.length ∧ l.length ≤ 60
  · have d1 : decide ((1 : Int) ≤ (l.length : Int)) = true := by simp; omega
    have d2 : decide ((l.length : Int) ≤ 60) = true := by simp; omega
    have c0 := within_c (G := G) (l.length : Int) 1 60
    rw [d1, d2] at c0
    have hs : True := trivial
    repeat' first | (with_reducible first | refine q01 ?_ | refine q11 ?_ | refine q12 ?_ | refine q14 ?_) | (refine CallE.pure (c0) ?_; try simp -dsimp [hs]) | (with_reducible refine DT_regionE [0,1,2,3,4,5,6,7,8,13,18,28,31,38,44,52,53,73,84,99] ?_; simp -dsimp [hs]) | (refine DT_cond rfl (fun h => ?_) (fun h => ?_) <;> (try simp only [nrm] at h) <;> (try exact Bool.noConfusion h))
    all_goals try simp -dsimp [hs]
    all_goals try clear hs
    refine DT_loop (ι := { i : Nat // i ≤ l.length ∧ (scanI none l).isSome = (scanI (prevI l i) (l.drop i)).isSome ∧ ∀ x ∈ l.take i, issueOk x = true }) (fun p => ⟨103, [(1, .one (.ptr 0 0)), (2, bv false), (3, iv (p.1 : Int))], [.row [.im (.sl (l.map encIssue))]]⟩) (fun p => l.length - p.1) ⟨0, by simp [prevI]⟩ (Weak.of_keep [1,2,3] (by simp)) ?_
    rintro ⟨i, hi, hscan, hok⟩
    simp only [iv]
    by_cases hlt : i < l.length
    · have hx : l[i]? = some l[i] := by simp [hlt]
      have hw : IntKind.i64.wrap ((i : Int) + 1) = ((i + 1 : Nat) : Int) := i64w (by omega) (by omega)
      have hsm := hs.2 l[i] (List.getElem_mem hlt)
      have c1 := issue_c (G := G) l[i] ⟨hsm.1, hsm.2.1⟩ (by omega) (by omega)
      rw [List.drop_eq_getElem_cons hlt] at hscan
      have hnext : prevI l (i + 1) = some l[i] := by simp [prevI]
      cases hq : issueOk l[i]
      · rw [hq] at c1
        have hf : listedI l = false := listed_false1 (by
          rw [hscan]
          cases prevI l i with
          | none => exact false_step (scan_iff0 l[i] _) (by simp [hq])
          | some y => exact false_step (scan_iff1 y l[i] _) (by simp [hq]))
        have hs : True := trivial
        repeat' first | (with_reducible first | refine q01 ?_ | refine q02 ?_ | refine q05 ?_ | refine q11 ?_ | refine q12 ?_ | refine q14 ?_ | refine q17 ?_) | (with_reducible refine At.fn_ret (by simp -dsimp [hx, hlt, hs]; exact rfl) ?_) | (refine CallE.pure (c1) ?_; try simp -dsimp [hx, hlt, hs]) | (with_reducible refine DT_regionE [0,1,2,3,4,5,6,7,8,13,18,28,31,38,44,52,53,73,84,99] ?_; simp -dsimp [hx, hlt, hs]) | (refine DT_cond rfl (fun h => ?_) (fun h => ?_) <;> (try simp only [nrm] at h) <;> (try exact Bool.noConfusion h))
        all_goals try simp -dsimp [hx, hlt, hs]
        all_goals try clear hs
        simp [hf]
      · rw [hq] at c1
        have hokn : ∀ x ∈ l.take (i + 1), issueOk x = true := by
          rw [List.take_succ_eq_append_getElem hlt]
          intro x hx
          rcases List.mem_append.1 hx with h | h
          · exact hok x h
          · simp at h; rw [h]; exact hq
        have hdr : 1 ≤ l[i].drawing := by
          simp only [issueOk, Bool.and_assoc] at hq
          rw [← Bool.and_assoc, Bool.and_eq_true] at hq
          have := (ck12_iff _).1 hq.1; omega
        by_cases hi0 : i = 0
        · subst hi0
          have hst := scan_iff0 l[0] (l.drop 1)
          simp only [prevI] at hscan
          rw [Nat.zero_add] at hscan
          rw [← hscan] at hst
          have hs : True := trivial
          repeat' first | (with_reducible first | refine q01 ?_ | refine q02 ?_ | refine q04 ?_ | refine q05 ?_ | refine q11 ?_ | refine q12 ?_ | refine q14 ?_ | refine q17 ?_) | (with_reducible refine At.fn_ret (by simp -dsimp [hx, hlt, hw, hs]; exact rfl) ?_) | (refine CallE.pure (c1) ?_; try simp -dsimp [hx, hlt, hw, hs]) | (with_reducible refine DT_regionE [0,1,2,3,4,5,6,7,8,13,18,28,31,38,44,52,53,73,84,99] ?_; simp -dsimp [hx, hlt, hw, hs]) | (refine DT_cond rfl (fun h => ?_) (fun h => ?_) <;> (try simp only [nrm] at h) <;> (try exact Bool.noConfusion h)) | (with_reducible refine GStop_split ?_ ?_ <;> intro h <;> have h0 := h <;> (try simp only [nrm] at h) <;> (try exact Bool.noConfusion h) <;> have h2 := h <;> (try simp at h2) <;> (replace hs := And.intro h0 (And.intro h (And.intro h2 hs))) <;> simp -dsimp [h0, h, h2, hx, hlt, hw, hs])
          all_goals try simp -dsimp [hx, hlt, hw, hs]
          all_goals try clear hs
          all_goals first
            | (exfalso; omega)
            | (have hf := listed_false1 (false_step hst (by omega)); simp [hf]; done)
            | exact At.round ⟨1, by omega, by rw [hnext]; exact eq_of_step hst ⟨hq, by omega⟩, hokn⟩ (by simp; omega) (Weak.of_drop [1,2,3] 1 (by simp) (by simp) (by simp; exact i64w (by omega) (by omega)))
        · obtain ⟨m, rfl⟩ : ∃ m, i = m + 1 := ⟨i - 1, by omega⟩
          have hy : l[m]? = some l[m] := by simp
          have hw1 : IntKind.i64.wrap (((m + 1 : Nat) : Int) - 1) = m := i64w (by omega) (by omega) |>.trans (by omega)
          have hw2 : IntKind.i64.wrap (m : Int) = m := i64w (by omega) (by omega)
          have hoky := hok l[m] (List.mem_take_iff_getElem.2 ⟨m, by omega, rfl⟩)
          have hlet : 1 ≤ l[m].letter ∧ l[m].letter ≤ 8 := by simp [issueOk, ck1] at hoky; omega
          have hwl : IntKind.i64.wrap (l[m].letter + 1) = l[m].letter + 1 := i64w (by omega) (by omega)
          have hst := scan_iff1 l[m] l[m + 1] (l.drop (m + 1 + 1))
          simp only [prevI, hy] at hscan
          rw [← hscan] at hst
          have hpos : (0 : Int) < (m : Int) + 1 := by omega
          have hlt2 : (m : Int) + 1 < (l.length : Int) := by omega
          have hge : (0 : Int) ≤ (m : Int) + 1 := by omega
          have hs : True := trivial
          repeat' first | (with_reducible first | refine q01 ?_ | refine q02 ?_ | refine q04 ?_ | refine q05 ?_ | refine q11 ?_ | refine q12 ?_ | refine q14 ?_ | refine q17 ?_) | (with_reducible refine At.fn_ret (by simp -dsimp [hge, hx, hlt, hlt2, hw, hy, hw1, hw2, hwl, hpos, hs]; exact rfl) ?_) | (refine CallE.pure (c1) ?_; try simp -dsimp [hge, hx, hlt, hlt2, hw, hy, hw1, hw2, hwl, hpos, hs]) | (with_reducible refine DT_regionE [0,1,2,3,4,5,6,7,8,13,18,28,31,38,44,52,53,73,84,99] ?_; simp -dsimp [hge, hx, hlt, hlt2, hw, hy, hw1, hw2, hwl, hpos, hs]) | (refine DT_cond rfl (fun h => ?_) (fun h => ?_) <;> (try simp only [nrm] at h) <;> (try exact Bool.noConfusion h)) | (with_reducible refine GStop_split ?_ ?_ <;> intro h <;> have h0 := h <;> (try simp only [nrm] at h) <;> (try exact Bool.noConfusion h) <;> have h2 := h <;> (try simp at h2) <;> (replace hs := And.intro h0 (And.intro h (And.intro h2 hs))) <;> simp -dsimp [h0, h, h2, hge, hx, hlt, hlt2, hw, hy, hw1, hw2, hwl, hpos, hs])
          all_goals try simp -dsimp [hge, hx, hlt, hlt2, hw, hy, hw1, hw2, hwl, hpos, hs]
          all_goals try clear hs
          all_goals first
            | (exfalso; omega)
            | (have hf := listed_false1 (false_step hst (by omega)); simp [hf]; done)
            | exact At.round ⟨m + 1 + 1, by omega, by rw [hnext]; exact eq_of_step hst ⟨hq, by omega⟩, hokn⟩ (by simp; omega) (Weak.of_drop [1,2,3] 1 (by simp) (by simp) (by simp; try exact i64w (by omega) (by omega)))
    · have hsome : (scanI none l).isSome = true := by
        rw [hscan, List.drop_eq_nil_of_le (by omega)]
        cases prevI l i <;> rfl
      have c2 := numbers_c (G := G) l (by omega)
      have hE : listedI l = (l.all (fun x => x.items.all fun y => decide (y.drawing ∈ nums l)) && decide ((nums l).length ≤ 20)) := by
        simp [listedI, hsome, hrange]
      have hnl : (nums l).length ≤ l.length := numsTo_length l l.length
      generalize nums l = ns at *
      have hs : True := trivial
      repeat' first | (with_reducible first | refine q01 ?_ | refine q03 ?_ | refine q06 ?_ | refine q11 ?_ | refine q12 ?_ | refine q16 ?_) | (refine CallE.pure (c2) ?_; try simp -dsimp [hlt, hs]) | (with_reducible refine DT_regionE [0,1,2,3,4,5,6,7,8,13,18,28,31,38,44,52,53,73,84,99] ?_; simp -dsimp [hlt, hs]) | (refine DT_cond rfl (fun h => ?_) (fun h => ?_) <;> (try simp only [nrm] at h) <;> (try exact Bool.noConfusion h))
      all_goals try simp -dsimp [hlt, hs]
      all_goals try clear hs
      refine DT_loop (ι := { i : Nat // i ≤ l.length ∧ l.all (fun x => x.items.all fun y => decide (y.drawing ∈ ns)) = (l.drop i).all (fun x => x.items.all fun y => decide (y.drawing ∈ ns)) }) (fun p => ⟨103, [(1, .one (.ptr 0 0)), (2, bv false), (6, isv ns), (7, iv (p.1 : Int))], [.row [.im (.sl (l.map encIssue))]]⟩) (fun p => l.length - p.1) ⟨0, by simp⟩ (Weak.of_drop [1,2,6,7] 1 (by simp) (by simp) (by simp)) ?_
      clear hscan hok
      rintro ⟨k, hk, hall⟩
      simp only [iv, isv]
      by_cases hlk : k < l.length
      · have hx : l[k]? = some l[k] := by simp [hlk]
        have hw : IntKind.i64.wrap ((k : Int) + 1) = ((k + 1 : Nat) : Int) := i64w (by omega) (by omega)
        have hst := all_step hlk hall
        have hsm := hs.2 l[k] (List.getElem_mem hlk)
        have hs : True := trivial
        repeat' first | (with_reducible first | refine q01 ?_ | refine q11 ?_ | refine q12 ?_ | refine q14 ?_) | (with_reducible refine DT_regionE [0,1,2,3,4,5,6,7,8,13,18,28,31,38,44,52,53,73,84,99] ?_; simp -dsimp [hx, hlk, hw, hs]) | (refine DT_cond rfl (fun h => ?_) (fun h => ?_) <;> (try simp only [nrm] at h) <;> (try exact Bool.noConfusion h))
        all_goals try simp -dsimp [hx, hlk, hw, hs]
        all_goals try clear hs
        refine DT_loop (ι := { u : Nat // u ≤ l[k].items.length ∧ l[k].items.all (fun y => decide (y.drawing ∈ ns)) = (l[k].items.drop u).all (fun y => decide (y.drawing ∈ ns)) }) (fun p => ⟨103, [(1, .one (.ptr 0 0)), (2, bv false), (6, isv ns), (7, iv (k : Int)), (8, iv (p.1 : Int))], [.row [.im (.sl (l.map encIssue))]]⟩) (fun p => l[k].items.length - p.1) ⟨0, by simp⟩ (Weak.of_keep [1,2,6,7,8] (by simp)) ?_
        rintro ⟨u, hu, hall2⟩
        simp only [iv, isv]
        by_cases hlu : u < l[k].items.length
        · have hy : l[k].items[u]? = some l[k].items[u] := by simp [hlu]
          have hw2 : IntKind.i64.wrap ((u : Int) + 1) = ((u + 1 : Nat) : Int) := i64w (by omega) (by omega)
          have c3 := index_c (G := G) ns l[k].items[u].drawing (by omega)
          have hm := idx_mem ns l[k].items[u].drawing
          have hst2 := all_step hlu hall2
          generalize idx ns l[k].items[u].drawing = z at c3 hm
          have hs : True := trivial
          repeat' first | (with_reducible first | refine q01 ?_ | refine q02 ?_ | refine q04 ?_ | refine q05 ?_ | refine q11 ?_ | refine q12 ?_ | refine q14 ?_ | refine q17 ?_) | (with_reducible refine At.fn_ret (by simp -dsimp [hx, hlk, hy, hlu, hw2, hs]; exact rfl) ?_) | (refine CallE.pure (c3) ?_; try simp -dsimp [hx, hlk, hy, hlu, hw2, hs]) | (with_reducible refine DT_regionE [0,1,2,3,4,5,6,7,8,13,18,28,31,38,44,52,53,73,84,99] ?_; simp -dsimp [hx, hlk, hy, hlu, hw2, hs]) | (refine DT_cond rfl (fun h => ?_) (fun h => ?_) <;> (try simp only [nrm] at h) <;> (try exact Bool.noConfusion h))
          all_goals try simp -dsimp [hx, hlk, hy, hlu, hw2, hs]
          all_goals try clear hs
          · have hn := hm.1 ‹z < 0›
            have h1 := false_step hst2 (by simpa using hn)
            have h2 := false_step hst (by rw [h1]; exact Bool.false_ne_true)
            rw [hE, h2]; rfl
          · have hn : l[k].items[u].drawing ∈ ns := Classical.byContradiction fun hn => absurd (hm.2 hn) ‹_›
            exact At.round ⟨u + 1, by omega, eq_of_step hst2 (by simpa using hn)⟩ (by simp; omega) (Weak.of_keep [1,2,6,7,8] (by simp))
        · have h1 : l[k].items.all (fun y => decide (y.drawing ∈ ns)) = true := by rw [hall2, List.drop_eq_nil_of_le (by omega)]; rfl
          have hs : True := trivial
          repeat' first | (with_reducible first | refine q01 ?_ | refine q03 ?_ | refine q04 ?_ | refine q06 ?_ | refine q11 ?_ | refine q16 ?_) | (with_reducible refine DT_regionE [0,1,2,3,4,5,6,7,8,13,18,28,31,38,44,52,53,73,84,99] ?_; simp -dsimp [hx, hlk, hlu, hw, hs]) | (refine DT_cond rfl (fun h => ?_) (fun h => ?_) <;> (try simp only [nrm] at h) <;> (try exact Bool.noConfusion h))
          all_goals try simp -dsimp [hx, hlk, hlu, hw, hs]
          all_goals try clear hs
          exact At.round ⟨k + 1, by omega, eq_of_step hst h1⟩ (by simp; omega) (Weak.of_keep [1,2,6,7] (by simp))
      · have h1 : l.all (fun x => x.items.all fun y => decide (y.drawing ∈ ns)) = true := by rw [hall, List.drop_eq_nil_of_le (by omega)]; rfl
        rw [h1, Bool.true_and] at hE
        have hs : True := trivial
        repeat' first | (with_reducible first | refine q01 ?_ | refine q03 ?_ | refine q06 ?_ | refine q11 ?_ | refine q16 ?_ | refine q17 ?_) | (with_reducible refine At.fn_ret (by simp -dsimp [hlk, hs]; exact rfl) ?_) | (with_reducible refine DT_regionE [0,1,2,3,4,5,6,7,8,13,18,28,31,38,44,52,53,73,84,99] ?_; simp -dsimp [hlk, hs]) | (refine DT_cond rfl (fun h => ?_) (fun h => ?_) <;> (try simp only [nrm] at h) <;> (try exact Bool.noConfusion h))
        all_goals try simp -dsimp [hlk, hs]
        all_goals try clear hs
        rw [hE]; simp; omega
  · have hf : listedI l = false := by simp only [listedI]; rw [decide_eq_false hrange]; rfl
    have c0 := within_c (G := G) (l.length : Int) 1 60
    have hd : (decide ((1 : Int) ≤ (l.length : Int)) && decide ((l.length : Int) ≤ 60)) = false := by simp; omega
    rw [hd] at c0
    have hs : True := trivial
    repeat' first | (with_reducible first | refine q01 ?_ | refine q02 ?_ | refine q11 ?_ | refine q17 ?_) | (with_reducible refine At.fn_ret (by simp -dsimp [hs]; exact rfl) ?_) | (refine CallE.pure (c0) ?_; try simp -dsimp [hs]) | (with_reducible refine DT_regionE [0,1,2,3,4,5,6,7,8,13,18,28,31,38,44,52,53,73,84,99] ?_; simp -dsimp [hs]) | (refine DT_cond rfl (fun h => ?_) (fun h => ?_) <;> (try simp only [nrm] at h) <;> (try exact Bool.noConfusion h))
    all_goals try simp -dsimp [hs]
    all_goals try clear hs
    simp [hf]
end Go.Proofs
namespace Go.Proofs
open Go Go.Ab
variable {G : Nat → Option (List IC)}
theorem mostL_drop {l : List Int} {k : Nat} (hlt : k < l.length) (a : Int) (h : mostL l = (l.drop k).foldl max a) : mostL l = (l.drop (k + 1)).foldl max (max a l[k]) := by
  rw [h, List.drop_eq_getElem_cons hlt, List.foldl_cons]
set_option maxHeartbeats 1000000 in
theorem rcheck_c (l : List Issue) (hs : SmallR l) (objs : List DObj) : DCall Tryz.prog G 51 [regv l] objs (fun rr objs' => rr = iv (checkR l) ∧ objs' = objs) := by
  refine DCall.frame ?_ (by simp) (by simp) objs
  refine DCall_intro Tryz.func51 rfl Tryz.ntmps51 (by simp) rfl ?_
  try simp only [regv]
  have c1 := listed_c (G := G) l hs
  cases hL : listedI l
  · rw [hL] at c1
    have hs : True := trivial
    repeat' first | (with_reducible first | refine q01 ?_ | refine q02 ?_ | refine q11 ?_ | refine q17 ?_) | (with_reducible refine At.fn_ret (by simp -dsimp [hs]; exact rfl) ?_) | (refine CallE.pure (c1) ?_; try simp -dsimp [hs]) | (with_reducible refine DT_regionE [0,1,2,3,4,5,8,14,23,28] ?_; simp -dsimp [hs]) | (refine DT_cond rfl (fun h => ?_) (fun h => ?_) <;> (try simp only [nrm] at h) <;> (try exact Bool.noConfusion h))
    all_goals try simp -dsimp [hs]
    all_goals try clear hs
    simp [checkR, hL]
  · rw [hL] at c1
    have c2 := rdepths_c (G := G) l hL
    have hlen : (depthsL l).length ≤ 80 := by
      have := numsTo_length l l.length
      have := hs.1
      simp only [depthsL, List.length_map, nums]; omega
    have hE : checkR l = if mostL (depthsL l) > (depthsL l).length then 21 else if mostL (depthsL l) > 6 then 20 else 0 := by simp [checkR, hL]
    generalize depthsL l = D at c2 hE hlen
    have hs : True := trivial
    repeat' first | (with_reducible first | refine q01 ?_ | refine q11 ?_ | refine q12 ?_ | refine q14 ?_) | (refine CallE.pure (c1) ?_; try simp -dsimp [hs]) | (refine CallE.pure (c2) ?_; try simp -dsimp [hs]) | (with_reducible refine DT_regionE [0,1,2,3,4,5,8,14,23,28] ?_; simp -dsimp [hs]) | (refine DT_cond rfl (fun h => ?_) (fun h => ?_) <;> (try simp only [nrm] at h) <;> (try exact Bool.noConfusion h))
    all_goals try simp -dsimp [hs]
    all_goals try clear hs
    refine DT_loop (ι := { p : Nat × Int // p.1 ≤ D.length ∧ mostL D = (D.drop p.1).foldl max p.2 }) (fun p => ⟨31, [(1, .one (.ptr 0 0)), (2, iv 0), (3, isv D), (4, iv p.1.2), (5, iv (p.1.1 : Int))], [.row [.im (.sl (l.map encIssue))]]⟩) (fun p => D.length - p.1.1) ⟨(0, 0), by simp [mostL]⟩ (Weak.of_keep [1,2,3,4,5] (by simp)) ?_
    rintro ⟨⟨k, a⟩, hk, ha⟩
    simp only at hk ha
    simp only [iv, isv]
    by_cases hlt : k < D.length
    · have hx : D[k]? = some D[k] := by simp [hlt]
      have hw : IntKind.i64.wrap ((k : Int) + 1) = ((k + 1 : Nat) : Int) := i64w (by omega) (by omega)
      have hs : True := trivial
      repeat' first | (with_reducible first | refine q01 ?_ | refine q04 ?_ | refine q11 ?_ | refine q12 ?_ | refine q14 ?_) | (with_reducible refine DT_regionE [0,1,2,3,4,5,8,14,23,28] ?_; simp -dsimp [hx, hw, hlt, hs]) | (refine DT_cond rfl (fun h => ?_) (fun h => ?_) <;> (try simp only [nrm] at h) <;> (try exact Bool.noConfusion h))
      all_goals try simp -dsimp [hx, hw, hlt, hs]
      all_goals try clear hs
      exact At.round ⟨(k + 1, max a D[k]), by omega, mostL_drop hlt a ha⟩ (by simp; omega) (Weak.of_keep [1,2,3,4,5] (by simp))
    · have ha' : mostL D = a := by rw [ha, List.drop_eq_nil_of_le (by omega)]; rfl
      rw [ha'] at hE
      have hs : True := trivial
      repeat' first | (with_reducible first | refine q01 ?_ | refine q02 ?_ | refine q03 ?_ | refine q04 ?_ | refine q05 ?_ | refine q06 ?_ | refine q11 ?_ | refine q12 ?_ | refine q14 ?_ | refine q16 ?_ | refine q17 ?_) | (with_reducible refine At.fn_ret (by simp -dsimp [hlt, hs]; exact rfl) ?_) | (with_reducible refine DT_regionE [0,1,2,3,4,5,8,14,23,28] ?_; simp -dsimp [hlt, hs]) | (refine DT_cond rfl (fun h => ?_) (fun h => ?_) <;> (try simp only [nrm] at h) <;> (try exact Bool.noConfusion h))
      all_goals try simp -dsimp [hlt, hs]
      all_goals try clear hs
      all_goals rw [hE]
      · rw [if_pos (by omega)]
      · rw [if_neg (by omega), if_pos (by omega)]
      · rw [if_neg (by omega), if_neg (by omega)]
def lastOf (l : List Issue) (d : Int) : Int := l.foldl (fun n x => if x.drawing = d then max n x.letter else n) 0
theorem lastOf_c (l : List Issue) (d : Int) (hl : l.length < 1000000) (objs : List DObj) : DCall Tryz.prog G 77 [regv l, iv d] objs (fun rr objs' => rr = iv (lastOf l d) ∧ objs' = objs) := by
  refine DCall.frame ?_ (by simp) (by simp) objs
  refine DCall_intro Tryz.func77 rfl Tryz.ntmps77 (by simp) rfl ?_
  try simp only [regv, iv]
  have hs : True := trivial
  repeat' first | (with_reducible first | refine q01 ?_ | refine q11 ?_ | refine q12 ?_) | (with_reducible refine DT_regionE [0,1,2,4,5,6,11,21] ?_; simp -dsimp [hs])
  all_goals try simp -dsimp [hs]
  all_goals try clear hs
  refine DT_loop (ι := { p : Nat × Int // p.1 ≤ l.length ∧ lastOf l d = (l.drop p.1).foldl (fun n x => if x.drawing = d then max n x.letter else n) p.2 }) (fun p => ⟨31, [(1, iv d), (2, .one (.ptr 0 0)), (5, iv p.1.2), (6, iv (p.1.1 : Int))], [.row [.im (.sl (l.map encIssue))]]⟩) (fun p => l.length - p.1.1) ⟨(0, 0), by simp [lastOf]⟩ (Weak.of_keep [1,2,5,6] (by simp)) ?_
  rintro ⟨⟨k, a⟩, hk, ha⟩
  simp only at hk ha
  simp only [iv]
  by_cases hlt : k < l.length
  · have hx : l[k]? = some l[k] := by simp [hlt]
    have hw : IntKind.i64.wrap ((k : Int) + 1) = ((k + 1 : Nat) : Int) := i64w (by omega) (by omega)
    rw [List.drop_eq_getElem_cons hlt, List.foldl_cons] at ha
    have hs : True := trivial
    repeat' first | (with_reducible first | refine q01 ?_ | refine q04 ?_ | refine q11 ?_ | refine q12 ?_ | refine q14 ?_) | (with_reducible refine DT_regionE [0,1,2,4,5,6,11,21] ?_; simp -dsimp [hx, hw, hlt, hs]) | (refine DT_cond rfl (fun h => ?_) (fun h => ?_) <;> (try simp only [nrm] at h) <;> (try exact Bool.noConfusion h))
    all_goals try simp -dsimp [hx, hw, hlt, hs]
    all_goals try clear hs
    · exact At.round ⟨(k + 1, max a l[k].letter), by omega, by rw [ha, if_pos ‹_›]⟩ (by simp; omega) (Weak.of_keep [1,2,5,6] (by simp))
    · exact At.round ⟨(k + 1, a), by omega, by rw [ha, if_neg ‹_›]⟩ (by simp; omega) (Weak.of_keep [1,2,5,6] (by simp))
  · have ha' : lastOf l d = a := by rw [ha, List.drop_eq_nil_of_le (by omega)]; rfl
    have hs : True := trivial
    repeat' first | (with_reducible first | refine q01 ?_ | refine q03 ?_ | refine q06 ?_ | refine q11 ?_ | refine q16 ?_ | refine q17 ?_) | (with_reducible refine At.fn_ret (by simp -dsimp [hlt, hs]; exact rfl) ?_) | (with_reducible refine DT_regionE [0,1,2,4,5,6,11,21] ?_; simp -dsimp [hlt, hs]) | (refine DT_cond rfl (fun h => ?_) (fun h => ?_) <;> (try simp only [nrm] at h) <;> (try exact Bool.noConfusion h))
    all_goals try simp -dsimp [hlt, hs]
    all_goals try clear hs
    rw [ha']
def letterOk (l : List Issue) (p : Int × Int) : Bool := decide (1 ≤ p.2) && decide (p.2 ≤ lastOf l p.1)
def lettersI (l : List Issue) (lets : List Int) : Bool := decide (lets.length = (nums l).length) && ((nums l).zip lets).all (letterOk l)
theorem letters_c (l : List Issue) (lets : List Int) (hl : l.length < 1000000) (hll : lets.length < 1000000) (objs : List DObj) : DCall Tryz.prog G 37 [regv l, isv lets] objs (fun rr objs' => rr = bv (lettersI l lets) ∧ objs' = objs) := by
  refine DCall.frame ?_ (by simp) (by simp) objs
  refine DCall_intro Tryz.func37 rfl Tryz.ntmps37 (by simp) rfl ?_
  try simp only [regv, isv]
  have c1 := numbers_c (G := G) l (by omega)
  have hE : lettersI l lets = (decide (lets.length = (nums l).length) && ((nums l).zip lets).all (letterOk l)) := rfl
  generalize nums l = ns at c1 hE
  by_cases he : lets.length = ns.length
  · rw [decide_eq_true he, Bool.true_and] at hE
    have he' : (lets.length : Int) = (ns.length : Int) := by omega
    have hs : True := trivial
    repeat' first | (with_reducible first | refine q01 ?_ | refine q11 ?_ | refine q12 ?_ | refine q14 ?_) | (refine CallE.pure (c1) ?_; try simp -dsimp [he', hs]) | (with_reducible refine DT_regionE [0,1,2,4,5,6,13,17,31] ?_; simp -dsimp [he', hs]) | (refine DT_cond rfl (fun h => ?_) (fun h => ?_) <;> (try simp only [nrm] at h) <;> (try exact Bool.noConfusion h))
    all_goals try simp -dsimp [he', hs]
    all_goals try clear hs
    refine DT_loop (ι := { k : Nat // k ≤ ns.length ∧ (ns.zip lets).all (letterOk l) = ((ns.zip lets).drop k).all (letterOk l) }) (fun p => ⟨32, [(1, isv lets), (2, .one (.ptr 0 0)), (5, isv ns), (6, iv (p.1 : Int))], [.row [.im (.sl (l.map encIssue))]]⟩) (fun p => ns.length - p.1) ⟨0, by simp⟩ (Weak.of_drop [1,2,5,6] 1 (by simp) (by simp) (by simp)) ?_
    rintro ⟨k, hk, ha⟩
    simp only [iv, isv]
    by_cases hlt : k < ns.length
    · have hx : ns[k]? = some ns[k] := by simp [hlt]
      have hlt2 : k < lets.length := by omega
      have hy : lets[k]? = some lets[k] := by simp [hlt2]
      have hw : IntKind.i64.wrap ((k : Int) + 1) = ((k + 1 : Nat) : Int) := i64w (by omega) (by omega)
      have hz : k < (ns.zip lets).length := by simp; omega
      have hst := all_step hz ha
      rw [List.getElem_zip] at hst
      have c2 := lastOf_c (G := G) l ns[k] hl
      have c3 := within_c (G := G) lets[k] 1 (lastOf l ns[k])
      have hq' : letterOk l (ns[k], lets[k]) = (decide (1 ≤ lets[k]) && decide (lets[k] ≤ lastOf l ns[k])) := rfl
      cases hq : letterOk l (ns[k], lets[k])
      · rw [← hq', hq] at c3
        have hs : True := trivial
        repeat' first | (with_reducible first | refine q01 ?_ | refine q02 ?_ | refine q05 ?_ | refine q11 ?_ | refine q12 ?_ | refine q14 ?_ | refine q17 ?_) | (with_reducible refine At.fn_ret (by simp -dsimp [hx, hy, hw, hlt, hlt2, hs]; exact rfl) ?_) | (refine QCall_pure (c2) ?_; try simp -dsimp [hx, hy, hw, hlt, hlt2, hs]) | (refine QCall_pure (c3) ?_; try simp -dsimp [hx, hy, hw, hlt, hlt2, hs]) | (refine DT_regionM (id := 7) (nt := 32) 12 [0,1,2,4,5,6,13,17,31] mixed rfl (by kernel_rfl) ?_; simp -dsimp [hx, hy, hw, hlt, hlt2, hs]) | (with_reducible refine DT_regionE [0,1,2,4,5,6,13,17,31] ?_; simp -dsimp [hx, hy, hw, hlt, hlt2, hs]) | (refine DT_cond rfl (fun h => ?_) (fun h => ?_) <;> (try simp only [nrm] at h) <;> (try exact Bool.noConfusion h))
        all_goals try simp -dsimp [hx, hy, hw, hlt, hlt2, hs]
        all_goals try clear hs
        rw [hE, false_step hst (by rw [hq]; exact Bool.false_ne_true)]
      · rw [← hq', hq] at c3
        have hs : True := trivial
        repeat' first | (with_reducible first | refine q01 ?_ | refine q04 ?_ | refine q11 ?_ | refine q12 ?_ | refine q14 ?_) | (refine QCall_pure (c2) ?_; try simp -dsimp [hx, hy, hw, hlt, hlt2, hs]) | (refine QCall_pure (c3) ?_; try simp -dsimp [hx, hy, hw, hlt, hlt2, hs]) | (refine DT_regionM (id := 7) (nt := 32) 12 [0,1,2,4,5,6,13,17,31] mixed rfl (by kernel_rfl) ?_; simp -dsimp [hx, hy, hw, hlt, hlt2, hs]) | (with_reducible refine DT_regionE [0,1,2,4,5,6,13,17,31] ?_; simp -dsimp [hx, hy, hw, hlt, hlt2, hs]) | (refine DT_cond rfl (fun h => ?_) (fun h => ?_) <;> (try simp only [nrm] at h) <;> (try exact Bool.noConfusion h))
        all_goals try simp -dsimp [hx, hy, hw, hlt, hlt2, hs]
        all_goals try clear hs
        exact At.round ⟨k + 1, by omega, eq_of_step hst hq⟩ (by simp; omega) (Weak.of_keep [1,2,5,6] (by simp))
    · have h1 : (ns.zip lets).all (letterOk l) = true := by rw [ha, List.drop_eq_nil_of_le (by simp; omega)]; rfl
      have hs : True := trivial
      repeat' first | (with_reducible first | refine q01 ?_ | refine q03 ?_ | refine q06 ?_ | refine q11 ?_ | refine q16 ?_ | refine q17 ?_) | (with_reducible refine At.fn_ret (by simp -dsimp [hlt, hs]; exact rfl) ?_) | (with_reducible refine DT_regionE [0,1,2,4,5,6,13,17,31] ?_; simp -dsimp [hlt, hs]) | (refine DT_cond rfl (fun h => ?_) (fun h => ?_) <;> (try simp only [nrm] at h) <;> (try exact Bool.noConfusion h))
      all_goals try simp -dsimp [hlt, hs]
      all_goals try clear hs
      rw [hE, h1]
  · have he' : ¬ (lets.length : Int) = (ns.length : Int) := by omega
    rw [decide_eq_false he, Bool.false_and] at hE
    have hs : True := trivial
    repeat' first | (with_reducible first | refine q01 ?_ | refine q02 ?_ | refine q11 ?_ | refine q17 ?_) | (with_reducible refine At.fn_ret (by simp -dsimp [he', hs]; exact rfl) ?_) | (refine CallE.pure (c1) ?_; try simp -dsimp [he', hs]) | (with_reducible refine DT_regionE [0,1,2,4,5,6,13,17,31] ?_; simp -dsimp [he', hs]) | (refine DT_cond rfl (fun h => ?_) (fun h => ?_) <;> (try simp only [nrm] at h) <;> (try exact Bool.noConfusion h))
    all_goals try simp -dsimp [he', hs]
    all_goals try clear hs
    rw [hE]
def takeI (l : List Issue) (lets : List Int) (d : Int) : Issue := (findI l d ((lets[(idx (nums l) d).toNat]?).getD 0)).getD zIssue
end Go.Proofs
namespace Go.Ab
open Go
structure Note where
  number : Int
  day : Int
  signed : Int
  drawing : Int
  letter : Int
  frm : Int
  to : Int
  cancels : Int
  useUp : Bool
  ways : Int
  deriving DecidableEq
structure Notes where
  reg : List Issue
  notes : List Note
  deriving DecidableEq
def encNote (x : Note) : List IC := [rI x.number, rI x.day, .raw (.int .u8 x.signed), rI x.drawing, rI x.letter, rI x.frm, rI x.to, rI x.cancels, rB x.useUp, .raw (.int .u8 x.ways)]
def encNotes (n : Notes) : List IC := [.sl (n.reg.map encIssue), .sl (n.notes.map encNote)]
def notev (x : Note) : DV := .agg ((encNote x).map .im)
def notesv (n : Notes) : DV := .agg ((encNotes n).map .im)
attribute [simp] encNote encNotes notev notesv
end Go.Ab
namespace Go.Proofs
open Go Go.Ab
variable {G : Nat → Option (List IC)}
def nk1 (x : Note) : Bool := (decide (1 ≤ x.number) && decide (x.number ≤ 9999)) && (decide (0 ≤ x.day) && decide (x.day ≤ 14610))
set_option maxHeartbeats 1000000 in
theorem nk1_c (n : Notes) (i : Nat) (x : Note) (hx : n.notes[i]? = some x) (objs : List DObj) : DCall Tryz.prog G 158 [notesv n, iv (i : Int)] objs (fun rr objs' => rr = bv (nk1 x) ∧ objs' = objs) := by
  refine DCall.frame ?_ (by simp) (by simp) objs
  refine DCall_intro Tryz.func158 rfl Tryz.ntmps158 (by simp) rfl ?_
  try simp only [notesv, iv]
  have hi : i < n.notes.length := lt_of_getElem? hx
  have hxe : n.notes[i] = x := (List.getElem?_eq_some_iff.1 hx).2
  have c1 := in_note (G := G) 1 9999 [x.number] (by simp)
  have c2 := in_note (G := G) 0 14610 [x.day] (by simp)
  have hs : True := trivial
  repeat' first | (with_reducible first | refine q01 ?_ | refine q11 ?_ | refine q17 ?_) | (with_reducible refine At.fn_ret (by simp -dsimp [hxe, hi, hs]; exact rfl) ?_) | (refine CallE.thaw (c1) ?_ ?_ ?_; (focus (simp; done)); (focus (simp; done)); try simp -dsimp [hxe, hi, hs]) | (refine CallE.thaw (c2) ?_ ?_ ?_; (focus (simp; done)); (focus (simp; done)); try simp -dsimp [hxe, hi, hs]) | (with_reducible refine DT_regionE [0,1,2,4] ?_; simp -dsimp [hxe, hi, hs]) | (with_reducible refine GStop_split ?_ ?_ <;> intro h <;> have h0 := h <;> (try simp only [nrm] at h) <;> (try exact Bool.noConfusion h) <;> have h2 := h <;> (try simp at h2) <;> (replace hs := And.intro h0 (And.intro h (And.intro h2 hs))) <;> simp -dsimp [h0, h, h2, hxe, hi, hs])
  all_goals try simp -dsimp [hxe, hi, hs]
  all_goals try clear hs
  all_goals simp_all [nk1]
  all_goals omega
def nk2 (x : Note) : Bool := decide (x.signed ≤ 2) && decide (x.ways ≤ 3)
theorem nk2_c (n : Notes) (i : Nat) (x : Note) (hx : n.notes[i]? = some x) (objs : List DObj) : DCall Tryz.prog G 159 [notesv n, iv (i : Int)] objs (fun rr objs' => rr = bv (nk2 x) ∧ objs' = objs) := by
  refine DCall.frame ?_ (by simp) (by simp) objs
  refine DCall_intro Tryz.func159 rfl Tryz.ntmps159 (by simp) rfl ?_
  try simp only [notesv, iv]
  have hi : i < n.notes.length := lt_of_getElem? hx
  have hxe : n.notes[i] = x := (List.getElem?_eq_some_iff.1 hx).2
  have hs : True := trivial
  repeat' first | (with_reducible first | refine q01 ?_ | refine q11 ?_ | refine q17 ?_) | (with_reducible refine At.fn_ret (by simp -dsimp [hxe, hi, hs]; exact rfl) ?_) | (with_reducible refine DT_regionE [0,1,2,4] ?_; simp -dsimp [hxe, hi, hs]) | (with_reducible refine GStop_split ?_ ?_ <;> intro h <;> have h0 := h <;> (try simp only [nrm] at h) <;> (try exact Bool.noConfusion h) <;> have h2 := h <;> (try simp at h2) <;> (replace hs := And.intro h0 (And.intro h (And.intro h2 hs))) <;> simp -dsimp [h0, h, h2, hxe, hi, hs])
  all_goals try simp -dsimp [hxe, hi, hs]
  all_goals try clear hs
  all_goals (clear hx; simp_all [nk2])
  all_goals omega
def nk3 (x : Note) : Bool := (decide (1 ≤ x.frm) && decide (x.frm ≤ 999)) && (decide (1 ≤ x.to) && decide (x.to ≤ 999)) && decide (x.frm ≤ x.to)
theorem nk3_c (n : Notes) (i : Nat) (x : Note) (hx : n.notes[i]? = some x) (objs : List DObj) : DCall Tryz.prog G 160 [notesv n, iv (i : Int)] objs (fun rr objs' => rr = bv (nk3 x) ∧ objs' = objs) := by
  refine DCall.frame ?_ (by simp) (by simp) objs
  refine DCall_intro Tryz.func160 rfl Tryz.ntmps160 (by simp) rfl ?_
  try simp only [notesv, iv]
  have hi : i < n.notes.length := lt_of_getElem? hx
  have hxe : n.notes[i] = x := (List.getElem?_eq_some_iff.1 hx).2
  have c1 := in_note (G := G) 1 999 [x.frm, x.to] (by simp)
  have hs : True := trivial
  repeat' first | (with_reducible first | refine q01 ?_ | refine q11 ?_ | refine q17 ?_) | (with_reducible refine At.fn_ret (by simp -dsimp [hxe, hi, hs]; exact rfl) ?_) | (refine CallE.thaw (c1) ?_ ?_ ?_; (focus (simp; done)); (focus (simp; done)); try simp -dsimp [hxe, hi, hs]) | (with_reducible refine DT_regionE [0,1,2,4,5] ?_; simp -dsimp [hxe, hi, hs]) | (with_reducible refine GStop_split ?_ ?_ <;> intro h <;> have h0 := h <;> (try simp only [nrm] at h) <;> (try exact Bool.noConfusion h) <;> have h2 := h <;> (try simp at h2) <;> (replace hs := And.intro h0 (And.intro h (And.intro h2 hs))) <;> simp -dsimp [h0, h, h2, hxe, hi, hs])
  all_goals try simp -dsimp [hxe, hi, hs]
  all_goals try clear hs
  all_goals (clear hx c1; simp_all [nk3])
  all_goals omega
end Go.Proofs
