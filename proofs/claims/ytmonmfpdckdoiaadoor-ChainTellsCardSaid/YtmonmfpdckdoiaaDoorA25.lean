/- Part 25 of the proof whose last text closes the card: laws and walks that hold without conditions beyond those that each theorem names. -/
import Derived.Test.YtmonmfpdckdoiaaDoorA24
set_option linter.all false
set_option linter.deprecated false
namespace Go.Proofs
open Go Go.Ab
set_option linter.unusedSimpArgs false
variable {G : Nat → Option (List IC)}
def addM (m : List (Int × Int)) (lv : List (Int × Int)) : List (Int × Int) := lv.foldl (fun m p => mput p.1 (IntKind.i64.wrap (mlook m p.1 + p.2)) m) m
/-- What the closure add sees. -/
def expO (by' : List (Int × Issue)) (cnt : List (Int × Int)) : List DObj := [.row [.im (.mp [.int .i64] (encMSI by'))], .map [.int .i64] (encM cnt), .row [.map 1], .row [.fn (.func 118) [.ptr 0 0, .ptr 2 0, .ptr 3 0]]]
set_option maxHeartbeats 2000000 in
theorem explode1_c (l : List Issue) (lets : List Int) (h0 : checkR l = 0) (hlet : lettersI l lets = true) (dep : Int → Int) (hdep : ∀ n ∈ nums l, 1 ≤ dep n ∧ dep n ≤ 6 ∧ ∀ c ∈ chI l n, c ∈ nums l ∧ dep c < dep n) :
    ∀ (k : Nat) (d m : Int) (cnt : List (Int × Int)), d ∈ nums l → dep d ≤ k →
      DCall Tryd.prog G 118 [iv d, iv m, .one (.ptr 0 0), .one (.ptr 2 0), .one (.ptr 3 0)] (expO (tkM l lets) cnt)
        (fun r o => r = .tup [] ∧ o = expO (tkM l lets) (addM cnt (leavesF (takeI l lets) k d m))) := by
  intro k
  induction k with
  | zero => intro d m C hd hk; have := (hdep d hd).1; omega
  | succ k ih =>
    intro d m cnt hd hk
    have hti := take_items h0 hlet hd
    obtain ⟨htm, _, _⟩ := take_spec h0 hlet hd
    have htok := (scan_all (listed_scan (check_listed h0))).2.2.2.1 _ htm
    have hsm := issueOk_small htok
    have hkd : (takeI l lets d).kind = 1 ∨ (2 ≤ (takeI l lets d).kind ∧ (takeI l lets d).items.length = 0) := by
      simp only [issueOk, Bool.and_assoc] at htok
      rw [← Bool.and_assoc, Bool.and_eq_true] at htok
      have := (ck12_iff _).1 htok.1; omega
    have hch := (hdep d hd).2.2
    have hE : leavesF (takeI l lets) (k + 1) d m = if 1 < (takeI l lets d).kind then [(d, m)] else (takeI l lets d).items.flatMap fun y => leavesF (takeI l lets) k y.drawing (IntKind.i64.wrap (m * y.count)) := rfl
    have hlook : mlookS (tkM l lets) d = takeI l lets d := by rw [tkM, mlookS_map, if_pos hd]
    generalize takeI l lets d = x at *
    refine DCall.drop ?_
    refine DCall_intro Tryd.func118 rfl Tryd.ntmps118 (by simp) rfl ?_
    simp only [expO, iv]
    by_cases hkind : x.kind = 1
    · rw [if_neg (by omega)] at hE
      have hs : True := trivial
      repeat' first | (with_reducible first | refine q01 ?_ | refine q02 ?_ | refine q03 ?_ | refine q04 ?_ | refine q05 ?_ | refine q06 ?_ | refine q07 (by decide) ?_ | refine q08 ?_ | refine q09 ?_ | refine q10 ?_ | refine q11 ?_ | refine q12 ?_ | refine q13 ?_ | refine q14 ?_ | refine q15 ?_ | refine q16 ?_ | refine q17 ?_ | refine And.intro (by omega) ?_) | (with_reducible refine At.fn_ret (by simp -dsimp [hlook, hkind, hs]; exact rfl) ?_) | (with_reducible refine At.fn_end (by simp -dsimp [hlook, hkind, hs]; exact rfl) ?_) | (with_reducible refine DT_regionE [0, 1, 2, 3, 4, 7, 9, 15, 22, 23, 24, 25] ?_; simp -dsimp [hlook, hkind, hs]) | (refine DT_cond rfl (fun h => ?_) (fun h => ?_) <;> (try simp only [nrm] at h) <;> (try exact Bool.noConfusion h)) | (with_reducible refine GStop_split ?_ ?_ <;> intro h <;> have h0 := h <;> (try simp only [nrm] at h) <;> (try exact Bool.noConfusion h) <;> have h2 := h <;> (try simp at h2) <;> (replace hs := And.intro h0 (And.intro h (And.intro h2 hs))) <;> simp -dsimp [h0, h, h2, hlook, hkind, hs]) | (with_reducible refine imp_At (fun h => ?_); (try simp only [List.map_eq_nil_iff] at h); (try subst h); try simp -dsimp [hlook, hkind, hs]) | with_reducible refine And.intro ?_ ?_
      all_goals try simp -dsimp [hlook, hkind, hs]
      all_goals try clear hs
      refine DT_loop (ι := { p : Nat × List (Int × Int) // p.1 ≤ x.items.length ∧ addM cnt (x.items.flatMap fun y => leavesF (takeI l lets) k y.drawing (IntKind.i64.wrap (m * y.count))) = addM p.2 ((x.items.drop p.1).flatMap fun y => leavesF (takeI l lets) k y.drawing (IntKind.i64.wrap (m * y.count))) }) (fun p => ⟨37, [(1, iv m), (2, .one (.ptr 0 0)), (3, .one (.ptr 2 0)), (4, .one (.ptr 3 0)), (22, .one (.im (.sl (x.items.map encItem)))), (23, iv (x.items.length : Int)), (24, iv (p.1.1 : Int))], expO (tkM l lets) p.1.2⟩) (fun p => x.items.length - p.1.1) ⟨(0, cnt), by simp⟩ (Weak.of_drop [1,2,3,4,22,23,24] 4 (by simp) (by simp) (by simp [expO])) ?_
      rintro ⟨⟨u, cnt'⟩, hu, hadd⟩
      simp only at hu hadd
      simp only [iv, expO]
      by_cases hlt : u < x.items.length
      · have hx : x.items[u]? = some x.items[u] := by simp [hlt]
        have hw : IntKind.i64.wrap ((u : Int) + 1) = ((u + 1 : Nat) : Int) := i64w (by omega) (by omega)
        have hc := hch _ (hti x.items[u] (List.getElem_mem hlt))
        have hrec := ih x.items[u].drawing (IntKind.i64.wrap (m * x.items[u].count)) cnt' hc.1 (by omega)
        rw [List.drop_eq_getElem_cons hlt, List.flatMap_cons, addM, addM, List.foldl_append] at hadd
        simp only [iv, expO] at hrec
        have hs : True := trivial
        repeat' first | (with_reducible first | refine q01 ?_ | refine q02 ?_ | refine q03 ?_ | refine q04 ?_ | refine q05 ?_ | refine q06 ?_ | refine q07 (by decide) ?_ | refine q08 ?_ | refine q09 ?_ | refine q10 ?_ | refine q11 ?_ | refine q12 ?_ | refine q13 ?_ | refine q14 ?_ | refine q15 ?_ | refine q16 ?_ | refine q17 ?_ | refine And.intro (by omega) ?_) | (with_reducible refine At.fn_ret (by simp -dsimp [hx, hw, hlt, hs]; exact rfl) ?_) | (with_reducible refine At.fn_end (by simp -dsimp [hx, hw, hlt, hs]; exact rfl) ?_) | (refine CallE.embed [0, 1, 2, 3] (hrec) ?_ ?_ ?_ ?_ ?_ ?_; (focus (simp [emb]; done)); (focus (simp; done)); (focus (simp; done)); (focus (simp; done)); (focus (refine emb_all ?_; simp [emb, embAll]; done)); try simp -dsimp [mergeO, emb, hx, hw, hlt, hs]) | (with_reducible refine DT_regionE [0, 1, 2, 3, 4, 7, 9, 15, 22, 23, 24, 25] ?_; simp -dsimp [hx, hw, hlt, hs]) | (refine DT_cond rfl (fun h => ?_) (fun h => ?_) <;> (try simp only [nrm] at h) <;> (try exact Bool.noConfusion h)) | (with_reducible refine GStop_split ?_ ?_ <;> intro h <;> have h0 := h <;> (try simp only [nrm] at h) <;> (try exact Bool.noConfusion h) <;> have h2 := h <;> (try simp at h2) <;> (replace hs := And.intro h0 (And.intro h (And.intro h2 hs))) <;> simp -dsimp [h0, h, h2, hx, hw, hlt, hs]) | (with_reducible refine imp_At (fun h => ?_); (try simp only [List.map_eq_nil_iff] at h); (try subst h); try simp -dsimp [hx, hw, hlt, hs]) | with_reducible refine And.intro ?_ ?_
        all_goals try simp -dsimp [hx, hw, hlt, hs]
        all_goals try clear hs
        exact At.round ⟨(u + 1, addM cnt' (leavesF (takeI l lets) k x.items[u].drawing (IntKind.i64.wrap (m * x.items[u].count)))), by omega, hadd⟩ (by simp; omega) (Weak.of_drop [1,2,3,4,22,23,24] 4 (by simp) (by simp) (by simp [expO]))
      · rw [List.drop_eq_nil_of_le (by omega)] at hadd
        have hs : True := trivial
        repeat' first | (with_reducible first | refine q01 ?_ | refine q02 ?_ | refine q03 ?_ | refine q04 ?_ | refine q05 ?_ | refine q06 ?_ | refine q07 (by decide) ?_ | refine q08 ?_ | refine q09 ?_ | refine q10 ?_ | refine q11 ?_ | refine q12 ?_ | refine q13 ?_ | refine q14 ?_ | refine q15 ?_ | refine q16 ?_ | refine q17 ?_ | refine And.intro (by omega) ?_) | (with_reducible refine At.fn_ret (by simp -dsimp [hlt, hs]; exact rfl) ?_) | (with_reducible refine At.fn_end (by simp -dsimp [hlt, hs]; exact rfl) ?_) | (with_reducible refine DT_regionE [0, 1, 2, 3, 4, 7, 9, 15, 22, 23, 24, 25] ?_; simp -dsimp [hlt, hs]) | (refine DT_cond rfl (fun h => ?_) (fun h => ?_) <;> (try simp only [nrm] at h) <;> (try exact Bool.noConfusion h)) | (with_reducible refine GStop_split ?_ ?_ <;> intro h <;> have h0 := h <;> (try simp only [nrm] at h) <;> (try exact Bool.noConfusion h) <;> have h2 := h <;> (try simp at h2) <;> (replace hs := And.intro h0 (And.intro h (And.intro h2 hs))) <;> simp -dsimp [h0, h, h2, hlt, hs]) | (with_reducible refine imp_At (fun h => ?_); (try simp only [List.map_eq_nil_iff] at h); (try subst h); try simp -dsimp [hlt, hs]) | with_reducible refine And.intro ?_ ?_
        all_goals try simp -dsimp [hlt, hs]
        all_goals try clear hs
        rw [hE, hadd]; simp [expO, addM]
    · rw [if_pos (by omega)] at hE
      have hz : x.items.length = 0 := by omega
      have hs : True := trivial
      repeat' first | (with_reducible first | refine q01 ?_ | refine q02 ?_ | refine q03 ?_ | refine q04 ?_ | refine q05 ?_ | refine q06 ?_ | refine q07 (by decide) ?_ | refine q08 ?_ | refine q09 ?_ | refine q10 ?_ | refine q11 ?_ | refine q12 ?_ | refine q13 ?_ | refine q14 ?_ | refine q15 ?_ | refine q16 ?_ | refine q17 ?_ | refine And.intro (by omega) ?_) | (with_reducible refine At.fn_ret (by simp -dsimp [hlook, hkind, hz, hs]; exact rfl) ?_) | (with_reducible refine At.fn_end (by simp -dsimp [hlook, hkind, hz, hs]; exact rfl) ?_) | (with_reducible refine DT_regionE [0, 1, 2, 3, 4, 7, 9, 15, 22, 23, 24, 25] ?_; simp -dsimp [hlook, hkind, hz, hs]) | (refine DT_cond rfl (fun h => ?_) (fun h => ?_) <;> (try simp only [nrm] at h) <;> (try exact Bool.noConfusion h)) | (with_reducible refine GStop_split ?_ ?_ <;> intro h <;> have h0 := h <;> (try simp only [nrm] at h) <;> (try exact Bool.noConfusion h) <;> have h2 := h <;> (try simp at h2) <;> (replace hs := And.intro h0 (And.intro h (And.intro h2 hs))) <;> simp -dsimp [h0, h, h2, hlook, hkind, hz, hs]) | (with_reducible refine imp_At (fun h => ?_); (try simp only [List.map_eq_nil_iff] at h); (try subst h); try simp -dsimp [hlook, hkind, hz, hs]) | with_reducible refine And.intro ?_ ?_
      all_goals try simp -dsimp [hlook, hkind, hz, hs]
      all_goals try clear hs
      refine DT_loop (ι := Unit) (fun _ => ⟨37, [(23, iv 0), (24, iv 0)], expO (tkM l lets) (addM cnt [(d, m)])⟩) (fun _ => 0) () (Weak.of_drop [23,24] 4 (by simp) (by simp) (by simp [expO, addM])) ?_
      intro _
      simp only [iv, expO]
      have hs : True := trivial
      repeat' first | (with_reducible first | refine q01 ?_ | refine q02 ?_ | refine q03 ?_ | refine q04 ?_ | refine q05 ?_ | refine q06 ?_ | refine q07 (by decide) ?_ | refine q08 ?_ | refine q09 ?_ | refine q10 ?_ | refine q11 ?_ | refine q12 ?_ | refine q13 ?_ | refine q14 ?_ | refine q15 ?_ | refine q16 ?_ | refine q17 ?_ | refine And.intro (by omega) ?_) | (with_reducible refine At.fn_ret (by simp -dsimp [hs]; exact rfl) ?_) | (with_reducible refine At.fn_end (by simp -dsimp [hs]; exact rfl) ?_) | (with_reducible refine DT_regionE [0, 1, 2, 3, 4, 7, 9, 15, 22, 23, 24, 25] ?_; simp -dsimp [hs]) | (refine DT_cond rfl (fun h => ?_) (fun h => ?_) <;> (try simp only [nrm] at h) <;> (try exact Bool.noConfusion h)) | (with_reducible refine GStop_split ?_ ?_ <;> intro h <;> have h0 := h <;> (try simp only [nrm] at h) <;> (try exact Bool.noConfusion h) <;> have h2 := h <;> (try simp at h2) <;> (replace hs := And.intro h0 (And.intro h (And.intro h2 hs))) <;> simp -dsimp [h0, h, h2, hs]) | (with_reducible refine imp_At (fun h => ?_); (try simp only [List.map_eq_nil_iff] at h); (try subst h); try simp -dsimp [hs]) | with_reducible refine And.intro ?_ ?_
      all_goals try simp -dsimp [hs]
      all_goals try clear hs
      rw [hE]
def cntM (l : List Issue) (lets : List Int) (d : Int) : List (Int × Int) := addM [] (leavesF (takeI l lets) 6 d 1)
def partsP (ns : List Int) (m : List (Int × Int)) : List Itm := (ns.filter fun n => decide (0 < mlook m n)).map fun n => ⟨n, mlook m n⟩
def explR (l : List Issue) (lets : List Int) (d : Int) : List Itm := if takenE l lets d = 0 then partsP (nums l) (cntM l lets d) else []
set_option maxHeartbeats 1000000 in
theorem explode_c (l : List Issue) (lets : List Int) (d : Int) (hG : sheetG G) (hs : SmallR l) (hll : lets.length < 1000000) (objs : List DObj) : DCall Tryd.prog G 84 [regv l, isv lets, iv d] objs (fun rr objs' => rr = .tup [.one (.im (.sl ((explR l lets d).map encItem))), iv (takenE l lets d)] ∧ objs' = objs) := by
  refine DCall.frame ?_ (by simp) (by simp) objs
  refine DCall_intro Tryd.func84 rfl Tryd.ntmps84 (by simp) rfl ?_
  try simp only [regv, isv, iv]
  have c1 := sTaken_c (G := G) l lets d hG hs hll
  by_cases hE : takenE l lets d = 0
  · have h0 : checkR l = 0 := by
      by_cases h : checkR l = 0
      · exact h
      · simp [takenE, h] at hE
    have hlet : lettersI l lets = true := by
      cases h : lettersI l lets
      · simp [takenE, h0, h] at hE
      · rfl
    have hd : d ∈ nums l := Classical.byContradiction fun h => by simp [takenE, h0, hlet, h] at hE
    obtain ⟨dep, hdep⟩ := dep_spec h0
    have c2 := explode1_c (G := G) l lets h0 hlet dep hdep 6 d 1 [] hd (by have := (hdep d hd).2.1; omega)
    have hR : explR l lets d = partsP (nums l) (cntM l lets d) := by simp [explR, hE]
    have hnl : (nums l).length ≤ l.length := numsTo_length l l.length
    have hl80 := hs.1
    change DCall _ _ _ _ _ (fun r o => r = .tup [] ∧ o = expO (tkM l lets) (cntM l lets d)) at c2
    generalize cntM l lets d = cnt at *
    simp only [takenR, hE, if_true, bookI] at c1
    simp only [iv, expO, show encM [] = [] from rfl] at c2
    generalize nums l = ns at *
    have hs : True := trivial
    repeat' first | (with_reducible first | refine q01 ?_ | refine q02 ?_ | refine q03 ?_ | refine q04 ?_ | refine q05 ?_ | refine q06 ?_ | refine q07 (by decide) ?_ | refine q08 ?_ | refine q09 ?_ | refine q10 ?_ | refine q11 ?_ | refine q12 ?_ | refine q13 ?_ | refine q14 ?_ | refine q15 ?_ | refine q16 ?_ | refine q17 ?_ | refine And.intro (by omega) ?_) | (with_reducible refine At.fn_ret (by simp -dsimp [hs]; exact rfl) ?_) | (with_reducible refine At.fn_end (by simp -dsimp [hs]; exact rfl) ?_) | (refine CallE.pure (c1) ?_; try simp -dsimp [hs]) | (refine CallE.embed [2, 3, 4, 5] (c2) ?_ ?_ ?_ ?_ ?_ ?_; (focus (simp [emb]; done)); (focus (simp; done)); (focus (simp; done)); (focus (simp; done)); (focus (refine emb_all ?_; simp [emb, embAll]; done)); try simp -dsimp [mergeO, emb, hs]) | (with_reducible refine DT_regionE [0, 1, 2, 3, 6, 7, 8, 9, 10, 11, 12, 13, 15, 25, 35, 36, 37, 38, 44] ?_; simp -dsimp [hs]) | (refine DT_cond rfl (fun h => ?_) (fun h => ?_) <;> (try simp only [nrm] at h) <;> (try exact Bool.noConfusion h)) | (with_reducible refine GStop_split ?_ ?_ <;> intro h <;> have h0 := h <;> (try simp only [nrm] at h) <;> (try exact Bool.noConfusion h) <;> have h2 := h <;> (try simp at h2) <;> (replace hs := And.intro h0 (And.intro h (And.intro h2 hs))) <;> simp -dsimp [h0, h, h2, hs]) | (with_reducible refine imp_At (fun h => ?_); (try simp only [List.map_eq_nil_iff] at h); (try subst h); try simp -dsimp [hs]) | with_reducible refine And.intro ?_ ?_
    all_goals try simp -dsimp [hs]
    all_goals try clear hs
    refine DT_loop (ι := { p : Nat × Nat × Bool × List Itm // p.1 ≤ ns.length ∧ p.2.2.2.length ≤ p.1 ∧ partsP ns cnt = p.2.2.2 ++ partsP (ns.drop p.1) cnt }) (fun p => ⟨55, [(11, .one (.ptr 4 0)), (13, .one (.vec 6 p.1.2.1 0 p.1.2.2.2.length)), (35, isv ns), (36, iv (ns.length : Int)), (37, iv (p.1.1 : Int))], [.row [.im (.sl (l.map encIssue))], .vec 2 [] 0 true, .row [.im (.mp [.int .i64] (encMSI (tkM l lets)))], .map [.int .i64] (encM cnt), .row [.map 3], .row [.fn (.func 118) [.ptr 2 0, .ptr 4 0, .ptr 5 0]], .vec 2 (ims (p.1.2.2.2.map encItem)) p.1.2.1 p.1.2.2.1]⟩) (fun p => ns.length - p.1.1) ⟨(0, 0, true, []), by simp⟩ (Weak.of_keep [11,13,35,36,37] (by simp)) ?_
    rintro ⟨⟨k, g, nl, out⟩, hk, hol, hp⟩
    simp only at hk hol hp
    simp only [iv, isv]
    by_cases hlt : k < ns.length
    · have hx : ns[k]? = some ns[k] := by simp [hlt]
      have hw : IntKind.i64.wrap ((k : Int) + 1) = ((k + 1 : Nat) : Int) := i64w (by omega) (by omega)
      rw [List.drop_eq_getElem_cons hlt] at hp
      by_cases hpos : 0 < mlook cnt ns[k]
      · rw [partsP, partsP, List.filter_cons_of_pos (by simpa using hpos), List.map_cons] at hp
        have hs : True := trivial
        repeat' first | (with_reducible first | refine q01 ?_ | refine q02 ?_ | refine q03 ?_ | refine q04 ?_ | refine q05 ?_ | refine q06 ?_ | refine q07 (by decide) ?_ | refine q08 ?_ | refine q09 ?_ | refine q10 ?_ | refine q11 ?_ | refine q12 ?_ | refine q13 ?_ | refine q14 ?_ | refine q15 ?_ | refine q16 ?_ | refine q17 ?_ | refine And.intro (by omega) ?_) | (with_reducible refine At.fn_ret (by simp -dsimp [hx, hw, hlt, hpos, hs]; exact rfl) ?_) | (with_reducible refine At.fn_end (by simp -dsimp [hx, hw, hlt, hpos, hs]; exact rfl) ?_) | (with_reducible refine DT_regionE [0, 1, 2, 3, 6, 7, 8, 9, 10, 11, 12, 13, 15, 25, 35, 36, 37, 38, 44] ?_; simp -dsimp [hx, hw, hlt, hpos, hs]) | (refine DT_cond rfl (fun h => ?_) (fun h => ?_) <;> (try simp only [nrm] at h) <;> (try exact Bool.noConfusion h)) | (with_reducible refine GStop_split ?_ ?_ <;> intro h <;> have h0 := h <;> (try simp only [nrm] at h) <;> (try exact Bool.noConfusion h) <;> have h2 := h <;> (try simp at h2) <;> (replace hs := And.intro h0 (And.intro h (And.intro h2 hs))) <;> simp -dsimp [h0, h, h2, hx, hw, hlt, hpos, hs]) | (with_reducible refine imp_At (fun h => ?_); (try simp only [List.map_eq_nil_iff] at h); (try subst h); try simp -dsimp [hx, hw, hlt, hpos, hs]) | with_reducible refine And.intro ?_ ?_
        all_goals try simp -dsimp [hx, hw, hlt, hpos, hs]
        all_goals try clear hs
        all_goals try omega
        exact At.round ⟨(k + 1, g + 1, false, out ++ [⟨ns[k], mlook cnt ns[k]⟩]), by omega, by simp; omega, by rw [partsP, hp, partsP]; simp⟩ (by simp; omega) (Weak.of_drop [11,13,35,36,37] 7 (by simp) (by simp) (by simp))
      · rw [partsP, partsP, List.filter_cons_of_neg (by simpa using hpos)] at hp
        have hs : True := trivial
        repeat' first | (with_reducible first | refine q01 ?_ | refine q02 ?_ | refine q03 ?_ | refine q04 ?_ | refine q05 ?_ | refine q06 ?_ | refine q07 (by decide) ?_ | refine q08 ?_ | refine q09 ?_ | refine q10 ?_ | refine q11 ?_ | refine q12 ?_ | refine q13 ?_ | refine q14 ?_ | refine q15 ?_ | refine q16 ?_ | refine q17 ?_ | refine And.intro (by omega) ?_) | (with_reducible refine At.fn_ret (by simp -dsimp [hx, hw, hlt, hpos, hs]; exact rfl) ?_) | (with_reducible refine At.fn_end (by simp -dsimp [hx, hw, hlt, hpos, hs]; exact rfl) ?_) | (with_reducible refine DT_regionE [0, 1, 2, 3, 6, 7, 8, 9, 10, 11, 12, 13, 15, 25, 35, 36, 37, 38, 44] ?_; simp -dsimp [hx, hw, hlt, hpos, hs]) | (refine DT_cond rfl (fun h => ?_) (fun h => ?_) <;> (try simp only [nrm] at h) <;> (try exact Bool.noConfusion h)) | (with_reducible refine GStop_split ?_ ?_ <;> intro h <;> have h0 := h <;> (try simp only [nrm] at h) <;> (try exact Bool.noConfusion h) <;> have h2 := h <;> (try simp at h2) <;> (replace hs := And.intro h0 (And.intro h (And.intro h2 hs))) <;> simp -dsimp [h0, h, h2, hx, hw, hlt, hpos, hs]) | (with_reducible refine imp_At (fun h => ?_); (try simp only [List.map_eq_nil_iff] at h); (try subst h); try simp -dsimp [hx, hw, hlt, hpos, hs]) | with_reducible refine And.intro ?_ ?_
        all_goals try simp -dsimp [hx, hw, hlt, hpos, hs]
        all_goals try clear hs
        exact At.round ⟨(k + 1, g, nl, out), by omega, by show out.length ≤ k + 1; omega, hp⟩ (by simp; omega) (Weak.of_keep [11,13,35,36,37] (by simp))
    · rw [List.drop_eq_nil_of_le (by omega)] at hp
      have hs : True := trivial
      repeat' first | (with_reducible first | refine q01 ?_ | refine q02 ?_ | refine q03 ?_ | refine q04 ?_ | refine q05 ?_ | refine q06 ?_ | refine q07 (by decide) ?_ | refine q08 ?_ | refine q09 ?_ | refine q10 ?_ | refine q11 ?_ | refine q12 ?_ | refine q13 ?_ | refine q14 ?_ | refine q15 ?_ | refine q16 ?_ | refine q17 ?_ | refine And.intro (by omega) ?_) | (with_reducible refine At.fn_ret (by simp -dsimp [hlt, hs]; exact rfl) ?_) | (with_reducible refine At.fn_end (by simp -dsimp [hlt, hs]; exact rfl) ?_) | (with_reducible refine DT_regionE [0, 1, 2, 3, 6, 7, 8, 9, 10, 11, 12, 13, 15, 25, 35, 36, 37, 38, 44] ?_; simp -dsimp [hlt, hs]) | (refine DT_cond rfl (fun h => ?_) (fun h => ?_) <;> (try simp only [nrm] at h) <;> (try exact Bool.noConfusion h)) | (with_reducible refine GStop_split ?_ ?_ <;> intro h <;> have h0 := h <;> (try simp only [nrm] at h) <;> (try exact Bool.noConfusion h) <;> have h2 := h <;> (try simp at h2) <;> (replace hs := And.intro h0 (And.intro h (And.intro h2 hs))) <;> simp -dsimp [h0, h, h2, hlt, hs]) | (with_reducible refine imp_At (fun h => ?_); (try simp only [List.map_eq_nil_iff] at h); (try subst h); try simp -dsimp [hlt, hs]) | with_reducible refine And.intro ?_ ?_
      all_goals try simp -dsimp [hlt, hs]
      all_goals try clear hs
      all_goals try omega
      rw [hR, hp]; simp [partsP, hE]
  · have hR : explR l lets d = [] := by simp [explR, hE]
    simp only [takenR, hE, if_false] at c1
    have hs : True := trivial
    repeat' first | (with_reducible first | refine q01 ?_ | refine q02 ?_ | refine q03 ?_ | refine q04 ?_ | refine q05 ?_ | refine q06 ?_ | refine q07 (by decide) ?_ | refine q08 ?_ | refine q09 ?_ | refine q10 ?_ | refine q11 ?_ | refine q12 ?_ | refine q13 ?_ | refine q14 ?_ | refine q15 ?_ | refine q16 ?_ | refine q17 ?_ | refine And.intro (by omega) ?_) | (with_reducible refine At.fn_ret (by simp -dsimp [hE, hs]; exact rfl) ?_) | (with_reducible refine At.fn_end (by simp -dsimp [hE, hs]; exact rfl) ?_) | (refine CallE.pure (c1) ?_; try simp -dsimp [hE, hs]) | (with_reducible refine DT_regionE [0, 1, 2, 3, 6, 7, 8, 9, 10, 11, 12, 13, 15, 25, 35, 36, 37, 38, 44] ?_; simp -dsimp [hE, hs]) | (refine DT_cond rfl (fun h => ?_) (fun h => ?_) <;> (try simp only [nrm] at h) <;> (try exact Bool.noConfusion h)) | (with_reducible refine GStop_split ?_ ?_ <;> intro h <;> have h0 := h <;> (try simp only [nrm] at h) <;> (try exact Bool.noConfusion h) <;> have h2 := h <;> (try simp at h2) <;> (replace hs := And.intro h0 (And.intro h (And.intro h2 hs))) <;> simp -dsimp [h0, h, h2, hE, hs]) | (with_reducible refine imp_At (fun h => ?_); (try simp only [List.map_eq_nil_iff] at h); (try subst h); try simp -dsimp [hE, hs]) | with_reducible refine And.intro ?_ ?_
    all_goals try simp -dsimp [hE, hs]
    all_goals try clear hs
    simp [hR]
end Go.Proofs
namespace Go.Ab
open Go
structure Link where
  drawing : Int
  dim : Int
  back : Bool
  deriving DecidableEq
structure ChLoop where
  links : List Link
  lo : Int
  hi : Int
  deriving DecidableEq
structure Chains where
  reg : List Issue
  lets : List Int
  of : Int
  loops : List ChLoop
  deriving DecidableEq
def encLink (x : Link) : List IC := [rI x.drawing, rI x.dim, rB x.back]
def encLoop (x : ChLoop) : List IC := [.sl (x.links.map encLink), rI x.lo, rI x.hi]
def encChains (c : Chains) : List IC := [.sl (c.reg.map encIssue), .sl (c.lets.map encI), rI c.of, .sl (c.loops.map encLoop)]
def linkv (x : Link) : DV := .agg ((encLink x).map .im)
def loopv (x : ChLoop) : DV := .agg ((encLoop x).map .im)
def chv (c : Chains) : DV := .agg ((encChains c).map .im)
attribute [simp] encLink encLoop encChains linkv loopv chv
theorem encLink_len (x : Link) : (encLink x).length = 3 := rfl
theorem encLoop_len (x : ChLoop) : (encLoop x).length = 3 := rfl
end Go.Ab
namespace Go.Proofs
open Go Go.Ab
set_option linter.unusedSimpArgs false
variable {G : Nat → Option (List IC)}
theorem in1_chain (x lo hi : Int) : DCall Tryd.prog G 82 (iv x :: [DC.ptr 0 0, DC.ptr 1 0].map .one) [.row [.im (rI lo)], .row [.im (rI hi)]] (fun d o => d = bv (decide (x < lo) || decide (hi < x)) ∧ o = [.row [.im (rI lo)], .row [.im (rI hi)]]) := by
  refine DCall_intro Tryd.func82 rfl Tryd.ntmps82 (by simp) rfl ?_
  simp only [rI]
  have hs : True := trivial
  repeat' first | (with_reducible first | refine q01 ?_ | refine q02 ?_ | refine q03 ?_ | refine q04 ?_ | refine q05 ?_ | refine q06 ?_ | refine q07 (by decide) ?_ | refine q08 ?_ | refine q09 ?_ | refine q10 ?_ | refine q11 ?_ | refine q12 ?_ | refine q13 ?_ | refine q14 ?_ | refine q15 ?_ | refine q16 ?_ | refine q17 ?_ | refine And.intro (by omega) ?_) | (with_reducible refine At.fn_ret (by simp -dsimp [hs]; exact rfl) ?_) | (with_reducible refine At.fn_end (by simp -dsimp [hs]; exact rfl) ?_) | (with_reducible refine DT_regionE [0, 1, 2, 4] ?_; simp -dsimp [hs]) | (refine DT_cond rfl (fun h => ?_) (fun h => ?_) <;> (try simp only [nrm] at h) <;> (try exact Bool.noConfusion h)) | (with_reducible refine GStop_split ?_ ?_ <;> intro h <;> have h0 := h <;> (try simp only [nrm] at h) <;> (try exact Bool.noConfusion h) <;> have h2 := h <;> (try simp at h2) <;> (replace hs := And.intro h0 (And.intro h (And.intro h2 hs))) <;> simp -dsimp [h0, h, h2, hs]) | (with_reducible refine imp_At (fun h => ?_); (try simp only [List.map_eq_nil_iff] at h); (try subst h); try simp -dsimp [hs]) | with_reducible refine And.intro ?_ ?_
  all_goals try simp -dsimp [hs]
  all_goals try clear hs
  all_goals simp [*]
theorem in_chain (lo hi : Int) (l : List Int) (hl : l.length < 1000000) (objs : List DObj) : DCall Tryd.prog G 46 [iv lo, iv hi, isv l] objs (fun rr objs' => rr = bv (l.all fun x => decide (lo ≤ x) && decide (x ≤ hi)) ∧ objs' = objs) := by
  refine DCall.frame ?_ (by simp) (by simp) objs
  refine DCall_intro Tryd.func46 rfl Tryd.ntmps46 (by simp) rfl ?_
  try simp only [iv, iv, isv]
  have hc := containsFunc_int (G := G) l (fun x => decide (x < lo) || decide (hi < x)) 82 [.ptr 0 0, .ptr 1 0] [.row [.im (rI lo)], .row [.im (rI hi)]] (by simp) (fun x _ => in1_chain x lo hi) hl
  simp only [rI] at hc
  have hs : True := trivial
  repeat' first | (with_reducible first | refine q01 ?_ | refine q02 ?_ | refine q03 ?_ | refine q04 ?_ | refine q05 ?_ | refine q06 ?_ | refine q07 (by decide) ?_ | refine q08 ?_ | refine q09 ?_ | refine q10 ?_ | refine q11 ?_ | refine q12 ?_ | refine q13 ?_ | refine q14 ?_ | refine q15 ?_ | refine q16 ?_ | refine q17 ?_ | refine And.intro (by omega) ?_) | (with_reducible refine At.fn_ret (by simp -dsimp [hs]; exact rfl) ?_) | (with_reducible refine At.fn_end (by simp -dsimp [hs]; exact rfl) ?_) | (refine CallE.here hc ?_; try simp -dsimp [hs]) | (with_reducible refine DT_regionE [0, 1, 2, 3, 4, 6] ?_; simp -dsimp [hs]) | (refine DT_cond rfl (fun h => ?_) (fun h => ?_) <;> (try simp only [nrm] at h) <;> (try exact Bool.noConfusion h)) | (with_reducible refine GStop_split ?_ ?_ <;> intro h <;> have h0 := h <;> (try simp only [nrm] at h) <;> (try exact Bool.noConfusion h) <;> have h2 := h <;> (try simp at h2) <;> (replace hs := And.intro h0 (And.intro h (And.intro h2 hs))) <;> simp -dsimp [h0, h, h2, hs]) | (with_reducible refine imp_At (fun h => ?_); (try simp only [List.map_eq_nil_iff] at h); (try subst h); try simp -dsimp [hs]) | with_reducible refine And.intro ?_ ?_
  all_goals try simp -dsimp [hs]
  all_goals try clear hs
  rw [Bool.eq_iff_iff]; simp
  exact exists_congr fun x => and_congr_right fun _ => by omega
def deskC (c : Chains) (D : List (Int × Int)) (B : List (Int × Issue)) : IC := .ip [.sl (c.reg.map encIssue), .sl (c.lets.map encI), rI c.of, .sl (c.loops.map encLoop), .mp [.int .i64] (encMI D), .mp [.int .i64] (encMSI B)]
def ckL1 (x : ChLoop) : Bool := decide (1 ≤ x.links.length) && decide (x.links.length ≤ 8)
def ckL2 (x : ChLoop) : Bool := (decide (-8000000000 ≤ x.lo) && decide (x.lo ≤ 8000000000)) && (decide (-8000000000 ≤ x.hi) && decide (x.hi ≤ 8000000000)) && decide (x.lo ≤ x.hi)
def usedOk (D : List (Int × Int)) (B : List (Int × Issue)) : List (Int × Int) → List Link → Bool
  | _, [] => true
  | U, y :: r => decide (mlook U y.drawing + 1 ≤ mlook D y.drawing) && (decide (0 ≤ y.dim) && decide (y.dim ≤ ((mlookS B y.drawing).dims.length : Int) - 1)) && usedOk D B (mput y.drawing (mlook U y.drawing + 1) U) r
theorem ckL1_c (d : IC) (x : ChLoop) (objs : List DObj) : DCall Tryd.prog G 186 [.one (.im d), loopv x] objs (fun rr objs' => rr = bv (ckL1 x) ∧ objs' = objs) := by
  refine DCall.frame ?_ (by simp) (by simp) objs
  refine DCall_intro Tryd.func186 rfl Tryd.ntmps186 (by simp) rfl ?_
  try simp only [loopv]
  have c1 := in_chain (G := G) 1 8 [(x.links.length : Int)] (by simp)
  have hs : True := trivial
  repeat' first | (with_reducible first | refine q01 ?_ | refine q02 ?_ | refine q03 ?_ | refine q04 ?_ | refine q05 ?_ | refine q06 ?_ | refine q07 (by decide) ?_ | refine q08 ?_ | refine q09 ?_ | refine q10 ?_ | refine q11 ?_ | refine q12 ?_ | refine q13 ?_ | refine q14 ?_ | refine q15 ?_ | refine q16 ?_ | refine q17 ?_ | refine And.intro (by omega) ?_) | (with_reducible refine At.fn_ret (by simp -dsimp [hs]; exact rfl) ?_) | (with_reducible refine At.fn_end (by simp -dsimp [hs]; exact rfl) ?_) | (refine CallE.thaw (c1) ?_ ?_ ?_; (focus (simp; done)); (focus (simp; done)); try simp -dsimp [hs]) | (with_reducible refine DT_regionE [1, 3, 4] ?_; simp -dsimp [hs]) | (refine DT_cond rfl (fun h => ?_) (fun h => ?_) <;> (try simp only [nrm] at h) <;> (try exact Bool.noConfusion h)) | (with_reducible refine GStop_split ?_ ?_ <;> intro h <;> have h0 := h <;> (try simp only [nrm] at h) <;> (try exact Bool.noConfusion h) <;> have h2 := h <;> (try simp at h2) <;> (replace hs := And.intro h0 (And.intro h (And.intro h2 hs))) <;> simp -dsimp [h0, h, h2, hs]) | (with_reducible refine imp_At (fun h => ?_); (try simp only [List.map_eq_nil_iff] at h); (try subst h); try simp -dsimp [hs]) | with_reducible refine And.intro ?_ ?_
  all_goals try simp -dsimp [hs]
  all_goals try clear hs
  rw [Bool.eq_iff_iff]
  simp [ckL1]
  omega
theorem ckL2_iff (x : ChLoop) : ckL2 x = true ↔ -8000000000 ≤ x.lo ∧ x.lo ≤ 8000000000 ∧ -8000000000 ≤ x.hi ∧ x.hi ≤ 8000000000 ∧ x.lo ≤ x.hi := by
  simp [ckL2]; omega
theorem ckL2_c (d : IC) (x : ChLoop) (objs : List DObj) : DCall Tryd.prog G 187 [.one (.im d), loopv x] objs (fun rr objs' => rr = bv (ckL2 x) ∧ objs' = objs) := by
  refine DCall.frame ?_ (by simp) (by simp) objs
  refine DCall_intro Tryd.func187 rfl Tryd.ntmps187 (by simp) rfl ?_
  try simp only [loopv]
  have c1 := in_chain (G := G) (-8000000000) 8000000000 [x.lo, x.hi] (by simp)
  have hi := ckL2_iff x
  cases hq : ([x.lo, x.hi].all fun y => decide (-8000000000 ≤ y) && decide (y ≤ 8000000000))
  · rw [hq] at c1
    have hs : True := trivial
    repeat' first | (with_reducible first | refine q01 ?_ | refine q02 ?_ | refine q03 ?_ | refine q04 ?_ | refine q05 ?_ | refine q06 ?_ | refine q07 (by decide) ?_ | refine q08 ?_ | refine q09 ?_ | refine q10 ?_ | refine q11 ?_ | refine q12 ?_ | refine q13 ?_ | refine q14 ?_ | refine q15 ?_ | refine q16 ?_ | refine q17 ?_ | refine And.intro (by omega) ?_) | (with_reducible refine At.fn_ret (by simp -dsimp [hs]; exact rfl) ?_) | (with_reducible refine At.fn_end (by simp -dsimp [hs]; exact rfl) ?_) | (refine CallE.thaw (c1) ?_ ?_ ?_; (focus (simp; done)); (focus (simp; done)); try simp -dsimp [hs]) | (with_reducible refine DT_regionE [1, 3, 4] ?_; simp -dsimp [hs]) | (refine DT_cond rfl (fun h => ?_) (fun h => ?_) <;> (try simp only [nrm] at h) <;> (try exact Bool.noConfusion h)) | (with_reducible refine GStop_split ?_ ?_ <;> intro h <;> have h0 := h <;> (try simp only [nrm] at h) <;> (try exact Bool.noConfusion h) <;> have h2 := h <;> (try simp at h2) <;> (replace hs := And.intro h0 (And.intro h (And.intro h2 hs))) <;> simp -dsimp [h0, h, h2, hs]) | (with_reducible refine imp_At (fun h => ?_); (try simp only [List.map_eq_nil_iff] at h); (try subst h); try simp -dsimp [hs]) | with_reducible refine And.intro ?_ ?_
    all_goals try simp -dsimp [hs]
    all_goals try clear hs
    all_goals simp at hq
    all_goals exact false_of hi (by omega)
  · rw [hq] at c1
    have hs : True := trivial
    repeat' first | (with_reducible first | refine q01 ?_ | refine q02 ?_ | refine q03 ?_ | refine q04 ?_ | refine q05 ?_ | refine q06 ?_ | refine q07 (by decide) ?_ | refine q08 ?_ | refine q09 ?_ | refine q10 ?_ | refine q11 ?_ | refine q12 ?_ | refine q13 ?_ | refine q14 ?_ | refine q15 ?_ | refine q16 ?_ | refine q17 ?_ | refine And.intro (by omega) ?_) | (with_reducible refine At.fn_ret (by simp -dsimp [hs]; exact rfl) ?_) | (with_reducible refine At.fn_end (by simp -dsimp [hs]; exact rfl) ?_) | (refine CallE.thaw (c1) ?_ ?_ ?_; (focus (simp; done)); (focus (simp; done)); try simp -dsimp [hs]) | (with_reducible refine DT_regionE [1, 3, 4] ?_; simp -dsimp [hs]) | (refine DT_cond rfl (fun h => ?_) (fun h => ?_) <;> (try simp only [nrm] at h) <;> (try exact Bool.noConfusion h)) | (with_reducible refine GStop_split ?_ ?_ <;> intro h <;> have h0 := h <;> (try simp only [nrm] at h) <;> (try exact Bool.noConfusion h) <;> have h2 := h <;> (try simp at h2) <;> (replace hs := And.intro h0 (And.intro h (And.intro h2 hs))) <;> simp -dsimp [h0, h, h2, hs]) | (with_reducible refine imp_At (fun h => ?_); (try simp only [List.map_eq_nil_iff] at h); (try subst h); try simp -dsimp [hs]) | with_reducible refine And.intro ?_ ?_
    all_goals try simp -dsimp [hs]
    all_goals try clear hs
    all_goals simp at hq
    all_goals rw [Bool.eq_iff_iff, hi]
    all_goals simp
    all_goals omega
set_option maxHeartbeats 1000000 in
theorem ckL3_c (c : Chains) (D : List (Int × Int)) (B : List (Int × Issue)) (x : ChLoop) (hl : x.links.length < 1000000) (hB : ∀ n, (mlookS B n).dims.length < 1000000) (objs : List DObj) : DCall Tryd.prog G 188 [.one (.im (deskC c D B)), loopv x] objs (fun rr objs' => rr = bv (usedOk D B [] x.links) ∧ objs' = objs) := by
  refine DCall.frame ?_ (by simp) (by simp) objs
  refine DCall_intro Tryd.func188 rfl Tryd.ntmps188 (by simp) rfl ?_
  try simp only [loopv]
  simp only [deskC]
  have hs : True := trivial
  repeat' first | (with_reducible first | refine q01 ?_ | refine q02 ?_ | refine q03 ?_ | refine q04 ?_ | refine q05 ?_ | refine q06 ?_ | refine q07 (by decide) ?_ | refine q08 ?_ | refine q09 ?_ | refine q10 ?_ | refine q11 ?_ | refine q12 ?_ | refine q13 ?_ | refine q14 ?_ | refine q15 ?_ | refine q16 ?_ | refine q17 ?_ | refine And.intro (by omega) ?_) | (with_reducible refine At.fn_ret (by simp -dsimp [hs]; exact rfl) ?_) | (with_reducible refine At.fn_end (by simp -dsimp [hs]; exact rfl) ?_) | (refine DT_regionM (id := 6) (nt := 50) 28 [0, 1, 3, 4, 5, 7, 10, 11, 12, 13, 48] mixed rfl (by kernel_rfl) ?_; simp -dsimp [hs]) | (with_reducible refine DT_regionE [0, 1, 3, 4, 5, 7, 10, 11, 12, 13, 48] ?_; simp -dsimp [hs]) | (refine DT_cond rfl (fun h => ?_) (fun h => ?_) <;> (try simp only [nrm] at h) <;> (try exact Bool.noConfusion h)) | (with_reducible refine GStop_split ?_ ?_ <;> intro h <;> have h0 := h <;> (try simp only [nrm] at h) <;> (try exact Bool.noConfusion h) <;> have h2 := h <;> (try simp at h2) <;> (replace hs := And.intro h0 (And.intro h (And.intro h2 hs))) <;> simp -dsimp [h0, h, h2, hs]) | (with_reducible refine imp_At (fun h => ?_); (try simp only [List.map_eq_nil_iff] at h); (try subst h); try simp -dsimp [hs]) | with_reducible refine And.intro ?_ ?_
  all_goals try simp -dsimp [hs]
  all_goals try clear hs
  refine DT_loop (ι := { p : Nat × List (Int × Int) // p.1 ≤ x.links.length ∧ usedOk D B [] x.links = usedOk D B p.2 (x.links.drop p.1) ∧ bd p.2 p.1 }) (fun p => ⟨50, [(0, .one (.im (deskC c D B))), (5, .one (.map 1)), (10, .one (.im (.sl (x.links.map encLink)))), (11, iv (x.links.length : Int)), (12, iv (p.1.1 : Int))], [.row ((encLoop x).map .im), .map [.int .i64] (encM p.1.2)]⟩) (fun p => x.links.length - p.1.1) ⟨(0, []), by simp [bd]⟩ (Weak.of_keep [0,5,10,11,12] (by simp [deskC, encM])) ?_
  rintro ⟨⟨k, U⟩, hk, hu, hb⟩
  simp only at hk hu hb
  simp only [iv, deskC]
  by_cases hlt : k < x.links.length
  · have hx : x.links[k]? = some x.links[k] := by simp [hlt]
    have hw : IntKind.i64.wrap ((k : Int) + 1) = ((k + 1 : Nat) : Int) := i64w (by omega) (by omega)
    have hbl := bd_look hb x.links[k].drawing
    have hwu : IntKind.i64.wrap (mlook U x.links[k].drawing + 1) = mlook U x.links[k].drawing + 1 := i64w (by omega) (by omega)
    have hput : mlook (mput x.links[k].drawing (mlook U x.links[k].drawing + 1) U) x.links[k].drawing = mlook U x.links[k].drawing + 1 := by rw [mlook_put, if_pos rfl]
    have hBn := hB x.links[k].drawing
    have hwd : IntKind.i64.wrap (((mlookS B x.links[k].drawing).dims.length : Int) - 1) = ((mlookS B x.links[k].drawing).dims.length : Int) - 1 := i64w (by omega) (by omega)
    have c1 := in_chain (G := G) 0 (((mlookS B x.links[k].drawing).dims.length : Int) - 1) [x.links[k].dim] (by simp)
    have hbn : bd (mput x.links[k].drawing (mlook U x.links[k].drawing + 1) U) (k + 1) := bd_put (bd_mono hb (by omega)) (by omega) (by omega)
    rw [List.drop_eq_getElem_cons hlt, usedOk] at hu
    by_cases hle : mlook U x.links[k].drawing + 1 ≤ mlook D x.links[k].drawing
    · rw [decide_eq_true hle, Bool.true_and] at hu
      cases hq : ([x.links[k].dim].all fun y => decide (0 ≤ y) && decide (y ≤ ((mlookS B x.links[k].drawing).dims.length : Int) - 1))
      · rw [hq] at c1
        have hq' : (decide (0 ≤ x.links[k].dim) && decide (x.links[k].dim ≤ ((mlookS B x.links[k].drawing).dims.length : Int) - 1)) = false := by simpa using hq
        rw [hq', Bool.false_and] at hu
        have hs : True := trivial
        repeat' first | (with_reducible first | refine q01 ?_ | refine q02 ?_ | refine q03 ?_ | refine q04 ?_ | refine q05 ?_ | refine q06 ?_ | refine q07 (by decide) ?_ | refine q08 ?_ | refine q09 ?_ | refine q10 ?_ | refine q11 ?_ | refine q12 ?_ | refine q13 ?_ | refine q14 ?_ | refine q15 ?_ | refine q16 ?_ | refine q17 ?_ | refine And.intro (by omega) ?_) | (with_reducible refine At.fn_ret (by simp -dsimp [hx, hw, hlt, hwu, hput, hwd, hle, hs]; exact rfl) ?_) | (with_reducible refine At.fn_end (by simp -dsimp [hx, hw, hlt, hwu, hput, hwd, hle, hs]; exact rfl) ?_) | (refine QCall_pure (c1) ?_; try simp -dsimp [hx, hw, hlt, hwu, hput, hwd, hle, hs]) | (refine DT_regionM (id := 6) (nt := 50) 28 [0, 1, 3, 4, 5, 7, 10, 11, 12, 13, 48] mixed rfl (by kernel_rfl) ?_; simp -dsimp [hx, hw, hlt, hwu, hput, hwd, hle, hs]) | (with_reducible refine DT_regionE [0, 1, 3, 4, 5, 7, 10, 11, 12, 13, 48] ?_; simp -dsimp [hx, hw, hlt, hwu, hput, hwd, hle, hs]) | (refine DT_cond rfl (fun h => ?_) (fun h => ?_) <;> (try simp only [nrm] at h) <;> (try exact Bool.noConfusion h)) | (with_reducible refine GStop_split ?_ ?_ <;> intro h <;> have h0 := h <;> (try simp only [nrm] at h) <;> (try exact Bool.noConfusion h) <;> have h2 := h <;> (try simp at h2) <;> (replace hs := And.intro h0 (And.intro h (And.intro h2 hs))) <;> simp -dsimp [h0, h, h2, hx, hw, hlt, hwu, hput, hwd, hle, hs]) | (with_reducible refine imp_At (fun h => ?_); (try simp only [List.map_eq_nil_iff] at h); (try subst h); try simp -dsimp [hx, hw, hlt, hwu, hput, hwd, hle, hs]) | with_reducible refine And.intro ?_ ?_
        all_goals try simp -dsimp [hx, hw, hlt, hwu, hput, hwd, hle, hs]
        all_goals try clear hs
        rw [hu]
      · rw [hq] at c1
        have hq' : (decide (0 ≤ x.links[k].dim) && decide (x.links[k].dim ≤ ((mlookS B x.links[k].drawing).dims.length : Int) - 1)) = true := by simpa using hq
        rw [hq', Bool.true_and] at hu
        have hs : True := trivial
        repeat' first | (with_reducible first | refine q01 ?_ | refine q02 ?_ | refine q03 ?_ | refine q04 ?_ | refine q05 ?_ | refine q06 ?_ | refine q07 (by decide) ?_ | refine q08 ?_ | refine q09 ?_ | refine q10 ?_ | refine q11 ?_ | refine q12 ?_ | refine q13 ?_ | refine q14 ?_ | refine q15 ?_ | refine q16 ?_ | refine q17 ?_ | refine And.intro (by omega) ?_) | (with_reducible refine At.fn_ret (by simp -dsimp [hx, hw, hlt, hwu, hput, hwd, hle, hs]; exact rfl) ?_) | (with_reducible refine At.fn_end (by simp -dsimp [hx, hw, hlt, hwu, hput, hwd, hle, hs]; exact rfl) ?_) | (refine QCall_pure (c1) ?_; try simp -dsimp [hx, hw, hlt, hwu, hput, hwd, hle, hs]) | (refine DT_regionM (id := 6) (nt := 50) 28 [0, 1, 3, 4, 5, 7, 10, 11, 12, 13, 48] mixed rfl (by kernel_rfl) ?_; simp -dsimp [hx, hw, hlt, hwu, hput, hwd, hle, hs]) | (with_reducible refine DT_regionE [0, 1, 3, 4, 5, 7, 10, 11, 12, 13, 48] ?_; simp -dsimp [hx, hw, hlt, hwu, hput, hwd, hle, hs]) | (refine DT_cond rfl (fun h => ?_) (fun h => ?_) <;> (try simp only [nrm] at h) <;> (try exact Bool.noConfusion h)) | (with_reducible refine GStop_split ?_ ?_ <;> intro h <;> have h0 := h <;> (try simp only [nrm] at h) <;> (try exact Bool.noConfusion h) <;> have h2 := h <;> (try simp at h2) <;> (replace hs := And.intro h0 (And.intro h (And.intro h2 hs))) <;> simp -dsimp [h0, h, h2, hx, hw, hlt, hwu, hput, hwd, hle, hs]) | (with_reducible refine imp_At (fun h => ?_); (try simp only [List.map_eq_nil_iff] at h); (try subst h); try simp -dsimp [hx, hw, hlt, hwu, hput, hwd, hle, hs]) | with_reducible refine And.intro ?_ ?_
        all_goals try simp -dsimp [hx, hw, hlt, hwu, hput, hwd, hle, hs]
        all_goals try clear hs
        exact At.round ⟨(k + 1, mput x.links[k].drawing (mlook U x.links[k].drawing + 1) U), by omega, hu, hbn⟩ (by simp; omega) (Weak.of_drop [0,5,10,11,12] 2 (by simp) (by simp) (by simp [deskC]))
    · rw [decide_eq_false hle, Bool.false_and, Bool.false_and] at hu
      have hs : True := trivial
      repeat' first | (with_reducible first | refine q01 ?_ | refine q02 ?_ | refine q03 ?_ | refine q04 ?_ | refine q05 ?_ | refine q06 ?_ | refine q07 (by decide) ?_ | refine q08 ?_ | refine q09 ?_ | refine q10 ?_ | refine q11 ?_ | refine q12 ?_ | refine q13 ?_ | refine q14 ?_ | refine q15 ?_ | refine q16 ?_ | refine q17 ?_ | refine And.intro (by omega) ?_) | (with_reducible refine At.fn_ret (by simp -dsimp [hx, hw, hlt, hwu, hput, hwd, hle, hs]; exact rfl) ?_) | (with_reducible refine At.fn_end (by simp -dsimp [hx, hw, hlt, hwu, hput, hwd, hle, hs]; exact rfl) ?_) | (refine DT_regionM (id := 6) (nt := 50) 28 [0, 1, 3, 4, 5, 7, 10, 11, 12, 13, 48] mixed rfl (by kernel_rfl) ?_; simp -dsimp [hx, hw, hlt, hwu, hput, hwd, hle, hs]) | (with_reducible refine DT_regionE [0, 1, 3, 4, 5, 7, 10, 11, 12, 13, 48] ?_; simp -dsimp [hx, hw, hlt, hwu, hput, hwd, hle, hs]) | (refine DT_cond rfl (fun h => ?_) (fun h => ?_) <;> (try simp only [nrm] at h) <;> (try exact Bool.noConfusion h)) | (with_reducible refine GStop_split ?_ ?_ <;> intro h <;> have h0 := h <;> (try simp only [nrm] at h) <;> (try exact Bool.noConfusion h) <;> have h2 := h <;> (try simp at h2) <;> (replace hs := And.intro h0 (And.intro h (And.intro h2 hs))) <;> simp -dsimp [h0, h, h2, hx, hw, hlt, hwu, hput, hwd, hle, hs]) | (with_reducible refine imp_At (fun h => ?_); (try simp only [List.map_eq_nil_iff] at h); (try subst h); try simp -dsimp [hx, hw, hlt, hwu, hput, hwd, hle, hs]) | with_reducible refine And.intro ?_ ?_
      all_goals try simp -dsimp [hx, hw, hlt, hwu, hput, hwd, hle, hs]
      all_goals try clear hs
      rw [hu]
  · rw [List.drop_eq_nil_of_le (by omega)] at hu
    have hs : True := trivial
    repeat' first | (with_reducible first | refine q01 ?_ | refine q02 ?_ | refine q03 ?_ | refine q04 ?_ | refine q05 ?_ | refine q06 ?_ | refine q07 (by decide) ?_ | refine q08 ?_ | refine q09 ?_ | refine q10 ?_ | refine q11 ?_ | refine q12 ?_ | refine q13 ?_ | refine q14 ?_ | refine q15 ?_ | refine q16 ?_ | refine q17 ?_ | refine And.intro (by omega) ?_) | (with_reducible refine At.fn_ret (by simp -dsimp [hlt, hs]; exact rfl) ?_) | (with_reducible refine At.fn_end (by simp -dsimp [hlt, hs]; exact rfl) ?_) | (refine DT_regionM (id := 6) (nt := 50) 28 [0, 1, 3, 4, 5, 7, 10, 11, 12, 13, 48] mixed rfl (by kernel_rfl) ?_; simp -dsimp [hlt, hs]) | (with_reducible refine DT_regionE [0, 1, 3, 4, 5, 7, 10, 11, 12, 13, 48] ?_; simp -dsimp [hlt, hs]) | (refine DT_cond rfl (fun h => ?_) (fun h => ?_) <;> (try simp only [nrm] at h) <;> (try exact Bool.noConfusion h)) | (with_reducible refine GStop_split ?_ ?_ <;> intro h <;> have h0 := h <;> (try simp only [nrm] at h) <;> (try exact Bool.noConfusion h) <;> have h2 := h <;> (try simp at h2) <;> (replace hs := And.intro h0 (And.intro h (And.intro h2 hs))) <;> simp -dsimp [h0, h, h2, hlt, hs]) | (with_reducible refine imp_At (fun h => ?_); (try simp only [List.map_eq_nil_iff] at h); (try subst h); try simp -dsimp [hlt, hs]) | with_reducible refine And.intro ?_ ?_
    all_goals try simp -dsimp [hlt, hs]
    all_goals try clear hs
    rw [hu]; rfl
end Go.Proofs
