/- Part 29 of the proof whose last text closes the card: laws and walks that hold without conditions beyond those that each theorem names. -/
import Derived.Test.YtmonmfpdckdoiaaDoorA28
set_option linter.all false
set_option linter.deprecated false
namespace Go.Proofs
open Go Go.Ab
set_option linter.unusedSimpArgs false
variable {G : Nat → Option (List IC)}
def chainsOk (c : Chains) : Bool := lettersI c.reg c.lets && decide (c.of ∈ nums c.reg) && decide (1 ≤ c.loops.length ∧ c.loops.length ≤ 6) && c.loops.all (loopOkR c)
set_option maxHeartbeats 4000000 in
theorem rChains_c (c : Chains) (hs : SmallC c) (h0 : checkR c.reg = 0) (objs : List DObj) : DCall Tryd.prog G 49 [chv c] objs (fun rr objs' => rr = bv (chainsOk c) ∧ objs' = objs) := by
  refine DCall.frame ?_ (by simp) (by simp) objs
  refine DCall_intro Tryd.func49 rfl Tryd.ntmps49 (by simp) rfl ?_
  try simp only [chv]
  have hck := h0
  obtain ⟨hsr, hsl, hso, hsk⟩ := hs
  have hreg := hsr.1
  have hnl : (nums c.reg).length ≤ c.reg.length := numsTo_length c.reg c.reg.length
  have c1 := letters_c (G := G) c.reg c.lets (by omega) (by omega)
  have c2 := numbers_c (G := G) c.reg (by omega)
  have c3 := index_c (G := G) (nums c.reg) c.of (by omega)
  have c4 := within6_c (G := G) (c.loops.length : Int) 1 6
  have him := idx_mem (nums c.reg) c.of
  by_cases hlet : lettersI c.reg c.lets = true
  · by_cases hof : c.of ∈ nums c.reg
    · by_cases hn : 1 ≤ c.loops.length ∧ c.loops.length ≤ 6
      · have hE : chainsOk c = c.loops.all (loopOkR c) := by simp [chainsOk, hlet, hof, hn]
        have hd : (decide ((1 : Int) ≤ (c.loops.length : Int)) && decide ((c.loops.length : Int) ≤ 6)) = true := by simp; omega
        have hll : c.lets.length = (nums c.reg).length := by
          simp only [lettersI, Bool.and_eq_true, decide_eq_true_eq] at hlet; exact hlet.1
        have hz : ¬ idx (nums c.reg) c.of < 0 := fun h => him.1 h hof
        rw [hlet] at c1
        rw [hd] at c4
        have c5 := parts2_c (G := G) c.reg c.lets c.of (by omega) h0 hlet hof
        have hs : True := trivial
        repeat' first | (with_reducible first | refine q01 ?_ | refine q02 ?_ | refine q03 ?_ | refine q04 ?_ | refine q05 ?_ | refine q06 ?_ | refine q07 (by decide) ?_ | refine q08 ?_ | refine q09 ?_ | refine q10 ?_ | refine q11 ?_ | refine q12 ?_ | refine q13 ?_ | refine q14 ?_ | refine q15 ?_ | refine q16 ?_ | refine q17 ?_ | refine And.intro (by omega) ?_) | (with_reducible refine At.fn_ret (by simp -dsimp [hz, hs]; exact rfl) ?_) | (with_reducible refine At.fn_end (by simp -dsimp [hz, hs]; exact rfl) ?_) | (refine QCall_pure (c1) ?_; try simp -dsimp [hz, hs]) | (refine QCall_pure (c2) ?_; try simp -dsimp [hz, hs]) | (refine QCall_pure (c3) ?_; try simp -dsimp [hz, hs]) | (refine QCall_pure (c4) ?_; try simp -dsimp [hz, hs]) | (refine CallE.pure (c5) ?_; try simp -dsimp [hz, hs]) | (refine DT_regionM (id := 1) (nt := 125) 22 [0, 1, 2, 3, 4, 5, 6, 7, 8, 9, 31, 43, 72, 77, 89, 100, 124] mixed rfl (by kernel_rfl) ?_; simp -dsimp [hz, hs]) | (refine DT_regionM (id := 18) (nt := 125) 9 [0, 1, 2, 3, 4, 5, 6, 7, 8, 9, 31, 43, 72, 77, 89, 100, 124] mixed rfl (by kernel_rfl) ?_; simp -dsimp [hz, hs]) | (refine DT_regionM (id := 20) (nt := 125) 22 [0, 1, 2, 3, 4, 5, 6, 7, 8, 9, 31, 43, 72, 77, 89, 100, 124] mixed rfl (by kernel_rfl) ?_; simp -dsimp [hz, hs]) | (with_reducible refine DT_regionE [0, 1, 2, 3, 4, 5, 6, 7, 8, 9, 31, 43, 72, 77, 89, 100, 124] ?_; simp -dsimp [hz, hs]) | (refine DT_cond rfl (fun h => ?_) (fun h => ?_) <;> (try simp only [nrm] at h) <;> (try exact Bool.noConfusion h)) | (with_reducible refine GStop_split ?_ ?_ <;> intro h <;> have h0 := h <;> (try simp only [nrm] at h) <;> (try exact Bool.noConfusion h) <;> have h2 := h <;> (try simp at h2) <;> (replace hs := And.intro h0 (And.intro h (And.intro h2 hs))) <;> simp -dsimp [h0, h, h2, hz, hs]) | (with_reducible refine imp_At (fun h => ?_); (try simp only [List.map_eq_nil_iff] at h); (try subst h); try simp -dsimp [hz, hs]) | with_reducible refine And.intro ?_ ?_
        all_goals try simp -dsimp [hz, hs]
        all_goals try clear hs
        have hpl : (partsI c.reg c.lets c.of).length ≤ 80 := by
          have := List.length_filter_le (fun p : Int × Int => decide (0 < p.2)) ((nums c.reg).zip (cntI c.reg c.lets c.of))
          simp only [partsI, List.length_map, List.length_zip] at *; omega
        have hpm := fun d (hd : 1 ≤ countI (partsI c.reg c.lets c.of) d) => part_mem h0 hlet hof hd
        have hlkE : ∀ ls y, linkOkR c ls y = (decide ((cntL ls y.drawing : Int) ≤ countI (partsI c.reg c.lets c.of) y.drawing) && (decide (0 ≤ y.dim) && decide (y.dim ≤ ((takeI c.reg c.lets y.drawing).dims.length : Int) - 1))) := fun _ _ => rfl
        generalize partsI c.reg c.lets c.of = ps at *
        refine DT_loop (ι := { j : Nat // j ≤ c.loops.length ∧ c.loops.all (loopOkR c) = (c.loops.drop j).all (loopOkR c) }) (fun p => ⟨125, [(1, .one (.ptr 0 0)), (2, bv false), (3, .one (.im (.sl (ps.map encItem)))), (4, iv (p.1 : Int))], [.row ((encChains c).map .im)]⟩) (fun p => c.loops.length - p.1) ⟨0, by simp⟩ (Weak.of_keep [1,2,3,4] (by simp)) ?_
        rintro ⟨j, hj, hall⟩
        simp only [iv, bv]
        by_cases hlj : j < c.loops.length
        · have hx : c.loops[j]? = some c.loops[j] := by simp [hlj]
          have hw : IntKind.i64.wrap ((j : Int) + 1) = ((j + 1 : Nat) : Int) := i64w (by omega) (by omega)
          have hst := all_step hlj hall
          have hlx : loopOkR c c.loops[j] = (ckL1 c.loops[j] && ckL2 c.loops[j] && c.loops[j].links.all (linkOkR c c.loops[j].links)) := rfl
          have h12 : (ckL1 c.loops[j] && ckL2 c.loops[j]) = true ↔ 1 ≤ c.loops[j].links.length ∧ c.loops[j].links.length ≤ 8 ∧ -8000000000 ≤ c.loops[j].lo ∧ c.loops[j].lo ≤ 8000000000 ∧ c.loops[j].lo ≤ c.loops[j].hi ∧ c.loops[j].hi ≤ 8000000000 := by
            rw [Bool.and_eq_true, ckL2_iff]
            simp only [ckL1, Bool.and_eq_true, decide_eq_true_eq]; omega
          generalize hA : (ckL1 c.loops[j] && ckL2 c.loops[j]) = A at h12 hlx
          generalize hxe : c.loops[j] = x at *
          have hs : True := trivial
          repeat' first | (with_reducible first | refine q01 ?_ | refine q02 ?_ | refine q03 ?_ | refine q04 ?_ | refine q05 ?_ | refine q06 ?_ | refine q07 (by decide) ?_ | refine q08 ?_ | refine q09 ?_ | refine q10 ?_ | refine q11 ?_ | refine q12 ?_ | refine q13 ?_ | refine q14 ?_ | refine q15 ?_ | refine q16 ?_ | refine q17 ?_ | refine And.intro (by omega) ?_) | (with_reducible refine At.fn_ret (by simp -dsimp [hx, hlj, hxe, hs]; exact rfl) ?_) | (with_reducible refine At.fn_end (by simp -dsimp [hx, hlj, hxe, hs]; exact rfl) ?_) | (refine CallE.pure (within6_c (G := G) _ _ _) ?_; try simp -dsimp [hx, hlj, hxe, hs]) | (refine DT_regionM (id := 1) (nt := 125) 22 [0, 1, 2, 3, 4, 5, 6, 7, 8, 9, 31, 43, 72, 77, 89, 100, 124] mixed rfl (by kernel_rfl) ?_; simp -dsimp [hx, hlj, hxe, hs]) | (refine DT_regionM (id := 18) (nt := 125) 9 [0, 1, 2, 3, 4, 5, 6, 7, 8, 9, 31, 43, 72, 77, 89, 100, 124] mixed rfl (by kernel_rfl) ?_; simp -dsimp [hx, hlj, hxe, hs]) | (refine DT_regionM (id := 20) (nt := 125) 22 [0, 1, 2, 3, 4, 5, 6, 7, 8, 9, 31, 43, 72, 77, 89, 100, 124] mixed rfl (by kernel_rfl) ?_; simp -dsimp [hx, hlj, hxe, hs]) | (with_reducible refine DT_regionE [0, 1, 2, 3, 4, 5, 6, 7, 8, 9, 31, 43, 72, 77, 89, 100, 124] ?_; simp -dsimp [hx, hlj, hxe, hs]) | (refine DT_cond rfl (fun h => ?_) (fun h => ?_) <;> (try simp only [nrm] at h) <;> (try exact Bool.noConfusion h)) | (with_reducible refine GStop_split ?_ ?_ <;> intro h <;> have h0 := h <;> (try simp only [nrm] at h) <;> (try exact Bool.noConfusion h) <;> have h2 := h <;> (try simp at h2) <;> (replace hs := And.intro h0 (And.intro h (And.intro h2 hs))) <;> simp -dsimp [h0, h, h2, hx, hlj, hxe, hs]) | (with_reducible refine imp_At (fun h => ?_); (try simp only [List.map_eq_nil_iff] at h); (try subst h); try simp -dsimp [hx, hlj, hxe, hs]) | with_reducible refine And.intro ?_ ?_
          all_goals try simp -dsimp [hx, hlj, hxe, hs]
          all_goals try clear hs
          all_goals first
            | (have hA2 : A = false := false_of h12 (by clear h12 hw; omega)
               rw [hE, false_step hst (by rw [hlx, hA2]; exact Bool.false_ne_true)]; done)
            | skip
          have hA2 : A = true := true_of h12 (by clear h12 hw; omega)
          rw [hA2, Bool.true_and] at hlx
          have hx8 : x.links.length ≤ 8 := (h12.1 hA2).2.1
          clear h12
          refine DT_loop (ι := { u : Nat // u ≤ x.links.length ∧ x.links.all (linkOkR c x.links) = (x.links.drop u).all (linkOkR c x.links) }) (fun p => ⟨125, [(1, .one (.ptr 0 0)), (2, bv false), (3, .one (.im (.sl (ps.map encItem)))), (4, iv (j : Int)), (5, .one (.ptr 2 0)), (6, iv (p.1 : Int))], [.row ((encChains c).map .im), .vec 0 [] 0 true, .row ((encLoop x).map .im)]⟩) (fun p => x.links.length - p.1) ⟨0, by simp⟩ (Weak.of_keep [1,2,3,4,5,6] (by simp)) ?_
          rintro ⟨u, hu, hal2⟩
          simp only [iv, bv]
          by_cases hlu : u < x.links.length
          · have hy : x.links[u]? = some x.links[u] := by simp [hlu]
            have hw2 : IntKind.i64.wrap ((u : Int) + 1) = ((u + 1 : Nat) : Int) := i64w (by omega) (by omega)
            have hst2 := all_step hlu hal2
            have hcp := cntL_pos (List.getElem_mem hlu)
            have hle := hlkE x.links x.links[u]
            generalize hye : x.links[u] = y at *
            have hs : True := trivial
            repeat' first | (with_reducible first | refine q01 ?_ | refine q02 ?_ | refine q03 ?_ | refine q04 ?_ | refine q05 ?_ | refine q06 ?_ | refine q07 (by decide) ?_ | refine q08 ?_ | refine q09 ?_ | refine q10 ?_ | refine q11 ?_ | refine q12 ?_ | refine q13 ?_ | refine q14 ?_ | refine q15 ?_ | refine q16 ?_ | refine q17 ?_ | refine And.intro (by omega) ?_) | (with_reducible refine At.fn_ret (by simp -dsimp [hy, hlu, hye, hs]; exact rfl) ?_) | (with_reducible refine At.fn_end (by simp -dsimp [hy, hlu, hye, hs]; exact rfl) ?_) | (refine DT_regionM (id := 1) (nt := 125) 22 [0, 1, 2, 3, 4, 5, 6, 7, 8, 9, 31, 43, 72, 77, 89, 100, 124] mixed rfl (by kernel_rfl) ?_; simp -dsimp [hy, hlu, hye, hs]) | (refine DT_regionM (id := 18) (nt := 125) 9 [0, 1, 2, 3, 4, 5, 6, 7, 8, 9, 31, 43, 72, 77, 89, 100, 124] mixed rfl (by kernel_rfl) ?_; simp -dsimp [hy, hlu, hye, hs]) | (refine DT_regionM (id := 20) (nt := 125) 22 [0, 1, 2, 3, 4, 5, 6, 7, 8, 9, 31, 43, 72, 77, 89, 100, 124] mixed rfl (by kernel_rfl) ?_; simp -dsimp [hy, hlu, hye, hs]) | (with_reducible refine DT_regionE [0, 1, 2, 3, 4, 5, 6, 7, 8, 9, 31, 43, 72, 77, 89, 100, 124] ?_; simp -dsimp [hy, hlu, hye, hs]) | (refine DT_cond rfl (fun h => ?_) (fun h => ?_) <;> (try simp only [nrm] at h) <;> (try exact Bool.noConfusion h)) | (with_reducible refine GStop_split ?_ ?_ <;> intro h <;> have h0 := h <;> (try simp only [nrm] at h) <;> (try exact Bool.noConfusion h) <;> have h2 := h <;> (try simp at h2) <;> (replace hs := And.intro h0 (And.intro h (And.intro h2 hs))) <;> simp -dsimp [h0, h, h2, hy, hlu, hye, hs]) | (with_reducible refine imp_At (fun h => ?_); (try simp only [List.map_eq_nil_iff] at h); (try subst h); try simp -dsimp [hy, hlu, hye, hs]) | with_reducible refine And.intro ?_ ?_
            all_goals try simp -dsimp [hy, hlu, hye, hs]
            all_goals try clear hs
            refine DT_loop (ι := { i : Nat // i ≤ x.links.length }) (fun p => ⟨125, [(1, .one (.ptr 0 0)), (2, bv false), (3, .one (.im (.sl (ps.map encItem)))), (4, iv (j : Int)), (5, .one (.ptr 2 0)), (6, iv (u : Int)), (7, .one (.ptr 3 0)), (8, iv (cntL (x.links.take p.1) y.drawing : Int)), (9, iv (p.1 : Int))], [.row ((encChains c).map .im), .vec 0 [] 0 true, .row ((encLoop x).map .im), .row ((encLink y).map .im)]⟩) (fun p => x.links.length - p.1) ⟨0, by omega⟩ (Weak.of_keep [1,2,3,4,5,6,7,8,9] (by simp [cntL])) ?_
            rintro ⟨i, hi⟩
            simp only [iv, bv]
            by_cases hli : i < x.links.length
            · have hz : x.links[i]? = some x.links[i] := by simp [hli]
              have hw3 : IntKind.i64.wrap ((i : Int) + 1) = ((i + 1 : Nat) : Int) := i64w (by omega) (by omega)
              have hcl : cntL (x.links.take i) y.drawing ≤ i := by
                unfold cntL
                have := List.length_filter_le (fun z : Link => decide (z.drawing = y.drawing)) (x.links.take i)
                rw [List.length_take] at this; omega
              have hw4 : IntKind.i64.wrap ((cntL (x.links.take i) y.drawing : Int) + 1) = (cntL (x.links.take i) y.drawing : Int) + 1 := i64w (by omega) (by omega)
              have hcn : cntL (x.links.take (i + 1)) y.drawing = cntL (x.links.take i) y.drawing + if x.links[i].drawing = y.drawing then 1 else 0 := by
                rw [List.take_succ_eq_append_getElem hli]
                unfold cntL
                rw [List.filter_append, List.length_append]
                congr 1
                by_cases h : x.links[i].drawing = y.drawing <;> simp [h]
              have hs : True := trivial
              repeat' first | (with_reducible first | refine q01 ?_ | refine q02 ?_ | refine q03 ?_ | refine q04 ?_ | refine q05 ?_ | refine q06 ?_ | refine q07 (by decide) ?_ | refine q08 ?_ | refine q09 ?_ | refine q10 ?_ | refine q11 ?_ | refine q12 ?_ | refine q13 ?_ | refine q14 ?_ | refine q15 ?_ | refine q16 ?_ | refine q17 ?_ | refine And.intro (by omega) ?_) | (with_reducible refine At.fn_ret (by simp -dsimp [hz, hli, hw3, hw4, hs]; exact rfl) ?_) | (with_reducible refine At.fn_end (by simp -dsimp [hz, hli, hw3, hw4, hs]; exact rfl) ?_) | (refine DT_regionM (id := 1) (nt := 125) 22 [0, 1, 2, 3, 4, 5, 6, 7, 8, 9, 31, 43, 72, 77, 89, 100, 124] mixed rfl (by kernel_rfl) ?_; simp -dsimp [hz, hli, hw3, hw4, hs]) | (refine DT_regionM (id := 18) (nt := 125) 9 [0, 1, 2, 3, 4, 5, 6, 7, 8, 9, 31, 43, 72, 77, 89, 100, 124] mixed rfl (by kernel_rfl) ?_; simp -dsimp [hz, hli, hw3, hw4, hs]) | (refine DT_regionM (id := 20) (nt := 125) 22 [0, 1, 2, 3, 4, 5, 6, 7, 8, 9, 31, 43, 72, 77, 89, 100, 124] mixed rfl (by kernel_rfl) ?_; simp -dsimp [hz, hli, hw3, hw4, hs]) | (with_reducible refine DT_regionE [0, 1, 2, 3, 4, 5, 6, 7, 8, 9, 31, 43, 72, 77, 89, 100, 124] ?_; simp -dsimp [hz, hli, hw3, hw4, hs]) | (refine DT_cond rfl (fun h => ?_) (fun h => ?_) <;> (try simp only [nrm] at h) <;> (try exact Bool.noConfusion h)) | (with_reducible refine GStop_split ?_ ?_ <;> intro h <;> have h0 := h <;> (try simp only [nrm] at h) <;> (try exact Bool.noConfusion h) <;> have h2 := h <;> (try simp at h2) <;> (replace hs := And.intro h0 (And.intro h (And.intro h2 hs))) <;> simp -dsimp [h0, h, h2, hz, hli, hw3, hw4, hs]) | (with_reducible refine imp_At (fun h => ?_); (try simp only [List.map_eq_nil_iff] at h); (try subst h); try simp -dsimp [hz, hli, hw3, hw4, hs]) | with_reducible refine And.intro ?_ ?_
              all_goals try simp -dsimp [hz, hli, hw3, hw4, hs]
              all_goals try clear hs
              · have hcn' : (cntL (x.links.take (i + 1)) y.drawing : Int) = (cntL (x.links.take i) y.drawing : Int) + 1 := by rw [hcn, if_pos ‹_›]; rfl
                exact At.round ⟨i + 1, by omega⟩ (by simp; omega) (Weak.of_keep [1,2,3,4,5,6,7,8,9] (by simp [hcn']))
              · have hcn' : cntL (x.links.take (i + 1)) y.drawing = cntL (x.links.take i) y.drawing := by rw [hcn, if_neg ‹_›]; rfl
                exact At.round ⟨i + 1, by omega⟩ (by simp; omega) (Weak.of_keep [1,2,3,4,5,6,7,8,9] (by simp [hcn']))
            · have hti : x.links.take i = x.links := List.take_of_length_le (by omega)
              rw [hti]
              have k1 := count_c (G := G) ps y.drawing (by omega)
              by_cases hgt : countI ps y.drawing < (cntL x.links y.drawing : Int)
              · have hf : linkOkR c x.links y = false := by rw [hle, decide_eq_false (by omega)]; rfl
                have hs : True := trivial
                repeat' first | (with_reducible first | refine q01 ?_ | refine q02 ?_ | refine q03 ?_ | refine q04 ?_ | refine q05 ?_ | refine q06 ?_ | refine q07 (by decide) ?_ | refine q08 ?_ | refine q09 ?_ | refine q10 ?_ | refine q11 ?_ | refine q12 ?_ | refine q13 ?_ | refine q14 ?_ | refine q15 ?_ | refine q16 ?_ | refine q17 ?_ | refine And.intro (by omega) ?_) | (with_reducible refine At.fn_ret (by simp -dsimp [hli, hgt, hs]; exact rfl) ?_) | (with_reducible refine At.fn_end (by simp -dsimp [hli, hgt, hs]; exact rfl) ?_) | (refine QCall_pure (k1) ?_; try simp -dsimp [hli, hgt, hs]) | (refine DT_regionM (id := 1) (nt := 125) 22 [0, 1, 2, 3, 4, 5, 6, 7, 8, 9, 31, 43, 72, 77, 89, 100, 124] mixed rfl (by kernel_rfl) ?_; simp -dsimp [hli, hgt, hs]) | (refine DT_regionM (id := 18) (nt := 125) 9 [0, 1, 2, 3, 4, 5, 6, 7, 8, 9, 31, 43, 72, 77, 89, 100, 124] mixed rfl (by kernel_rfl) ?_; simp -dsimp [hli, hgt, hs]) | (refine DT_regionM (id := 20) (nt := 125) 22 [0, 1, 2, 3, 4, 5, 6, 7, 8, 9, 31, 43, 72, 77, 89, 100, 124] mixed rfl (by kernel_rfl) ?_; simp -dsimp [hli, hgt, hs]) | (with_reducible refine DT_regionE [0, 1, 2, 3, 4, 5, 6, 7, 8, 9, 31, 43, 72, 77, 89, 100, 124] ?_; simp -dsimp [hli, hgt, hs]) | (refine DT_cond rfl (fun h => ?_) (fun h => ?_) <;> (try simp only [nrm] at h) <;> (try exact Bool.noConfusion h)) | (with_reducible refine GStop_split ?_ ?_ <;> intro h <;> have h0 := h <;> (try simp only [nrm] at h) <;> (try exact Bool.noConfusion h) <;> have h2 := h <;> (try simp at h2) <;> (replace hs := And.intro h0 (And.intro h (And.intro h2 hs))) <;> simp -dsimp [h0, h, h2, hli, hgt, hs]) | (with_reducible refine imp_At (fun h => ?_); (try simp only [List.map_eq_nil_iff] at h); (try subst h); try simp -dsimp [hli, hgt, hs]) | with_reducible refine And.intro ?_ ?_
                all_goals try simp -dsimp [hli, hgt, hs]
                all_goals try clear hs
                rw [hE, false_step hst (by rw [hlx, false_step hst2 (by rw [hf]; exact Bool.false_ne_true)]; exact Bool.false_ne_true)]
              · have hym := hpm y.drawing (by omega)
                have k2 := taken_c (G := G) c.reg c.lets y.drawing (by omega) hym hll
                rw [decide_eq_true (by omega), Bool.true_and] at hle
                have htb : (takeI c.reg c.lets y.drawing).dims.length < 1000000 := by
                  obtain ⟨hm, _⟩ := take_spec hck hlet hym
                  have := (hsr.2 _ hm).2.2.2; omega
                generalize takeI c.reg c.lets y.drawing = t at *
                have hwd : IntKind.i64.wrap ((t.dims.length : Int) - 1) = (t.dims.length : Int) - 1 := i64w (by omega) (by omega)
                have k3 := within6_c (G := G) y.dim 0 ((t.dims.length : Int) - 1)
                rw [← hle] at k3
                cases hq : linkOkR c x.links y
                · rw [hq] at k3
                  have hs : True := trivial
                  repeat' first | (with_reducible first | refine q01 ?_ | refine q02 ?_ | refine q03 ?_ | refine q04 ?_ | refine q05 ?_ | refine q06 ?_ | refine q07 (by decide) ?_ | refine q08 ?_ | refine q09 ?_ | refine q10 ?_ | refine q11 ?_ | refine q12 ?_ | refine q13 ?_ | refine q14 ?_ | refine q15 ?_ | refine q16 ?_ | refine q17 ?_ | refine And.intro (by omega) ?_) | (with_reducible refine At.fn_ret (by simp -dsimp [hli, hgt, hwd, hs]; exact rfl) ?_) | (with_reducible refine At.fn_end (by simp -dsimp [hli, hgt, hwd, hs]; exact rfl) ?_) | (refine QCall_pure (k1) ?_; try simp -dsimp [hli, hgt, hwd, hs]) | (refine QCall_pure (k2) ?_; try simp -dsimp [hli, hgt, hwd, hs]) | (refine QCall_pure (k3) ?_; try simp -dsimp [hli, hgt, hwd, hs]) | (refine DT_regionM (id := 1) (nt := 125) 22 [0, 1, 2, 3, 4, 5, 6, 7, 8, 9, 31, 43, 72, 77, 89, 100, 124] mixed rfl (by kernel_rfl) ?_; simp -dsimp [hli, hgt, hwd, hs]) | (refine DT_regionM (id := 18) (nt := 125) 9 [0, 1, 2, 3, 4, 5, 6, 7, 8, 9, 31, 43, 72, 77, 89, 100, 124] mixed rfl (by kernel_rfl) ?_; simp -dsimp [hli, hgt, hwd, hs]) | (refine DT_regionM (id := 20) (nt := 125) 22 [0, 1, 2, 3, 4, 5, 6, 7, 8, 9, 31, 43, 72, 77, 89, 100, 124] mixed rfl (by kernel_rfl) ?_; simp -dsimp [hli, hgt, hwd, hs]) | (with_reducible refine DT_regionE [0, 1, 2, 3, 4, 5, 6, 7, 8, 9, 31, 43, 72, 77, 89, 100, 124] ?_; simp -dsimp [hli, hgt, hwd, hs]) | (refine DT_cond rfl (fun h => ?_) (fun h => ?_) <;> (try simp only [nrm] at h) <;> (try exact Bool.noConfusion h)) | (with_reducible refine GStop_split ?_ ?_ <;> intro h <;> have h0 := h <;> (try simp only [nrm] at h) <;> (try exact Bool.noConfusion h) <;> have h2 := h <;> (try simp at h2) <;> (replace hs := And.intro h0 (And.intro h (And.intro h2 hs))) <;> simp -dsimp [h0, h, h2, hli, hgt, hwd, hs]) | (with_reducible refine imp_At (fun h => ?_); (try simp only [List.map_eq_nil_iff] at h); (try subst h); try simp -dsimp [hli, hgt, hwd, hs]) | with_reducible refine And.intro ?_ ?_
                  all_goals try simp -dsimp [hli, hgt, hwd, hs]
                  all_goals try clear hs
                  rw [hE, false_step hst (by rw [hlx, false_step hst2 (by rw [hq]; exact Bool.false_ne_true)]; exact Bool.false_ne_true)]
                · rw [hq] at k3
                  have hs : True := trivial
                  repeat' first | (with_reducible first | refine q01 ?_ | refine q02 ?_ | refine q03 ?_ | refine q04 ?_ | refine q05 ?_ | refine q06 ?_ | refine q07 (by decide) ?_ | refine q08 ?_ | refine q09 ?_ | refine q10 ?_ | refine q11 ?_ | refine q12 ?_ | refine q13 ?_ | refine q14 ?_ | refine q15 ?_ | refine q16 ?_ | refine q17 ?_ | refine And.intro (by omega) ?_) | (with_reducible refine At.fn_ret (by simp -dsimp [hli, hgt, hwd, hw2, hs]; exact rfl) ?_) | (with_reducible refine At.fn_end (by simp -dsimp [hli, hgt, hwd, hw2, hs]; exact rfl) ?_) | (refine QCall_pure (k1) ?_; try simp -dsimp [hli, hgt, hwd, hw2, hs]) | (refine QCall_pure (k2) ?_; try simp -dsimp [hli, hgt, hwd, hw2, hs]) | (refine QCall_pure (k3) ?_; try simp -dsimp [hli, hgt, hwd, hw2, hs]) | (refine DT_regionM (id := 1) (nt := 125) 22 [0, 1, 2, 3, 4, 5, 6, 7, 8, 9, 31, 43, 72, 77, 89, 100, 124] mixed rfl (by kernel_rfl) ?_; simp -dsimp [hli, hgt, hwd, hw2, hs]) | (refine DT_regionM (id := 18) (nt := 125) 9 [0, 1, 2, 3, 4, 5, 6, 7, 8, 9, 31, 43, 72, 77, 89, 100, 124] mixed rfl (by kernel_rfl) ?_; simp -dsimp [hli, hgt, hwd, hw2, hs]) | (refine DT_regionM (id := 20) (nt := 125) 22 [0, 1, 2, 3, 4, 5, 6, 7, 8, 9, 31, 43, 72, 77, 89, 100, 124] mixed rfl (by kernel_rfl) ?_; simp -dsimp [hli, hgt, hwd, hw2, hs]) | (with_reducible refine DT_regionE [0, 1, 2, 3, 4, 5, 6, 7, 8, 9, 31, 43, 72, 77, 89, 100, 124] ?_; simp -dsimp [hli, hgt, hwd, hw2, hs]) | (refine DT_cond rfl (fun h => ?_) (fun h => ?_) <;> (try simp only [nrm] at h) <;> (try exact Bool.noConfusion h)) | (with_reducible refine GStop_split ?_ ?_ <;> intro h <;> have h0 := h <;> (try simp only [nrm] at h) <;> (try exact Bool.noConfusion h) <;> have h2 := h <;> (try simp at h2) <;> (replace hs := And.intro h0 (And.intro h (And.intro h2 hs))) <;> simp -dsimp [h0, h, h2, hli, hgt, hwd, hw2, hs]) | (with_reducible refine imp_At (fun h => ?_); (try simp only [List.map_eq_nil_iff] at h); (try subst h); try simp -dsimp [hli, hgt, hwd, hw2, hs]) | with_reducible refine And.intro ?_ ?_
                  all_goals try simp -dsimp [hli, hgt, hwd, hw2, hs]
                  all_goals try clear hs
                  exact At.round ⟨u + 1, by omega, eq_of_step hst2 hq⟩ (by simp; omega) (Weak.of_drop [1,2,3,4,5,6] 3 (by simp) (by simp) (by simp))
          · have hok : x.links.all (linkOkR c x.links) = true := by rw [hal2, List.drop_eq_nil_of_le (by omega)]; rfl
            have hs : True := trivial
            repeat' first | (with_reducible first | refine q01 ?_ | refine q02 ?_ | refine q03 ?_ | refine q04 ?_ | refine q05 ?_ | refine q06 ?_ | refine q07 (by decide) ?_ | refine q08 ?_ | refine q09 ?_ | refine q10 ?_ | refine q11 ?_ | refine q12 ?_ | refine q13 ?_ | refine q14 ?_ | refine q15 ?_ | refine q16 ?_ | refine q17 ?_ | refine And.intro (by omega) ?_) | (with_reducible refine At.fn_ret (by simp -dsimp [hlu, hw, hs]; exact rfl) ?_) | (with_reducible refine At.fn_end (by simp -dsimp [hlu, hw, hs]; exact rfl) ?_) | (refine DT_regionM (id := 1) (nt := 125) 22 [0, 1, 2, 3, 4, 5, 6, 7, 8, 9, 31, 43, 72, 77, 89, 100, 124] mixed rfl (by kernel_rfl) ?_; simp -dsimp [hlu, hw, hs]) | (refine DT_regionM (id := 18) (nt := 125) 9 [0, 1, 2, 3, 4, 5, 6, 7, 8, 9, 31, 43, 72, 77, 89, 100, 124] mixed rfl (by kernel_rfl) ?_; simp -dsimp [hlu, hw, hs]) | (refine DT_regionM (id := 20) (nt := 125) 22 [0, 1, 2, 3, 4, 5, 6, 7, 8, 9, 31, 43, 72, 77, 89, 100, 124] mixed rfl (by kernel_rfl) ?_; simp -dsimp [hlu, hw, hs]) | (with_reducible refine DT_regionE [0, 1, 2, 3, 4, 5, 6, 7, 8, 9, 31, 43, 72, 77, 89, 100, 124] ?_; simp -dsimp [hlu, hw, hs]) | (refine DT_cond rfl (fun h => ?_) (fun h => ?_) <;> (try simp only [nrm] at h) <;> (try exact Bool.noConfusion h)) | (with_reducible refine GStop_split ?_ ?_ <;> intro h <;> have h0 := h <;> (try simp only [nrm] at h) <;> (try exact Bool.noConfusion h) <;> have h2 := h <;> (try simp at h2) <;> (replace hs := And.intro h0 (And.intro h (And.intro h2 hs))) <;> simp -dsimp [h0, h, h2, hlu, hw, hs]) | (with_reducible refine imp_At (fun h => ?_); (try simp only [List.map_eq_nil_iff] at h); (try subst h); try simp -dsimp [hlu, hw, hs]) | with_reducible refine And.intro ?_ ?_
            all_goals try simp -dsimp [hlu, hw, hs]
            all_goals try clear hs
            exact At.round ⟨j + 1, by omega, eq_of_step hst (by rw [hlx, hok])⟩ (by simp; omega) (Weak.of_drop [1,2,3,4] 1 (by simp) (by simp) (by simp))
        · have hok : c.loops.all (loopOkR c) = true := by rw [hall, List.drop_eq_nil_of_le (by omega)]; rfl
          have hs : True := trivial
          repeat' first | (with_reducible first | refine q01 ?_ | refine q02 ?_ | refine q03 ?_ | refine q04 ?_ | refine q05 ?_ | refine q06 ?_ | refine q07 (by decide) ?_ | refine q08 ?_ | refine q09 ?_ | refine q10 ?_ | refine q11 ?_ | refine q12 ?_ | refine q13 ?_ | refine q14 ?_ | refine q15 ?_ | refine q16 ?_ | refine q17 ?_ | refine And.intro (by omega) ?_) | (with_reducible refine At.fn_ret (by simp -dsimp [hlj, hs]; exact rfl) ?_) | (with_reducible refine At.fn_end (by simp -dsimp [hlj, hs]; exact rfl) ?_) | (refine DT_regionM (id := 1) (nt := 125) 22 [0, 1, 2, 3, 4, 5, 6, 7, 8, 9, 31, 43, 72, 77, 89, 100, 124] mixed rfl (by kernel_rfl) ?_; simp -dsimp [hlj, hs]) | (refine DT_regionM (id := 18) (nt := 125) 9 [0, 1, 2, 3, 4, 5, 6, 7, 8, 9, 31, 43, 72, 77, 89, 100, 124] mixed rfl (by kernel_rfl) ?_; simp -dsimp [hlj, hs]) | (refine DT_regionM (id := 20) (nt := 125) 22 [0, 1, 2, 3, 4, 5, 6, 7, 8, 9, 31, 43, 72, 77, 89, 100, 124] mixed rfl (by kernel_rfl) ?_; simp -dsimp [hlj, hs]) | (with_reducible refine DT_regionE [0, 1, 2, 3, 4, 5, 6, 7, 8, 9, 31, 43, 72, 77, 89, 100, 124] ?_; simp -dsimp [hlj, hs]) | (refine DT_cond rfl (fun h => ?_) (fun h => ?_) <;> (try simp only [nrm] at h) <;> (try exact Bool.noConfusion h)) | (with_reducible refine GStop_split ?_ ?_ <;> intro h <;> have h0 := h <;> (try simp only [nrm] at h) <;> (try exact Bool.noConfusion h) <;> have h2 := h <;> (try simp at h2) <;> (replace hs := And.intro h0 (And.intro h (And.intro h2 hs))) <;> simp -dsimp [h0, h, h2, hlj, hs]) | (with_reducible refine imp_At (fun h => ?_); (try simp only [List.map_eq_nil_iff] at h); (try subst h); try simp -dsimp [hlj, hs]) | with_reducible refine And.intro ?_ ?_
          all_goals try simp -dsimp [hlj, hs]
          all_goals try clear hs
          rw [hE, hok]
      · have hd : (decide ((1 : Int) ≤ (c.loops.length : Int)) && decide ((c.loops.length : Int) ≤ 6)) = false := by simp; omega
        have hE : chainsOk c = false := by simp [chainsOk, hn]
        have hz : ¬ idx (nums c.reg) c.of < 0 := fun h => him.1 h hof
        rw [hlet] at c1
        rw [hd] at c4
        have hs : True := trivial
        repeat' first | (with_reducible first | refine q01 ?_ | refine q02 ?_ | refine q03 ?_ | refine q04 ?_ | refine q05 ?_ | refine q06 ?_ | refine q07 (by decide) ?_ | refine q08 ?_ | refine q09 ?_ | refine q10 ?_ | refine q11 ?_ | refine q12 ?_ | refine q13 ?_ | refine q14 ?_ | refine q15 ?_ | refine q16 ?_ | refine q17 ?_ | refine And.intro (by omega) ?_) | (with_reducible refine At.fn_ret (by simp -dsimp [hz, hs]; exact rfl) ?_) | (with_reducible refine At.fn_end (by simp -dsimp [hz, hs]; exact rfl) ?_) | (refine QCall_pure (c1) ?_; try simp -dsimp [hz, hs]) | (refine QCall_pure (c2) ?_; try simp -dsimp [hz, hs]) | (refine QCall_pure (c3) ?_; try simp -dsimp [hz, hs]) | (refine QCall_pure (c4) ?_; try simp -dsimp [hz, hs]) | (refine DT_regionM (id := 1) (nt := 125) 22 [0, 1, 2, 3, 4, 5, 6, 7, 8, 9, 31, 43, 72, 77, 89, 100, 124] mixed rfl (by kernel_rfl) ?_; simp -dsimp [hz, hs]) | (refine DT_regionM (id := 18) (nt := 125) 9 [0, 1, 2, 3, 4, 5, 6, 7, 8, 9, 31, 43, 72, 77, 89, 100, 124] mixed rfl (by kernel_rfl) ?_; simp -dsimp [hz, hs]) | (refine DT_regionM (id := 20) (nt := 125) 22 [0, 1, 2, 3, 4, 5, 6, 7, 8, 9, 31, 43, 72, 77, 89, 100, 124] mixed rfl (by kernel_rfl) ?_; simp -dsimp [hz, hs]) | (with_reducible refine DT_regionE [0, 1, 2, 3, 4, 5, 6, 7, 8, 9, 31, 43, 72, 77, 89, 100, 124] ?_; simp -dsimp [hz, hs]) | (refine DT_cond rfl (fun h => ?_) (fun h => ?_) <;> (try simp only [nrm] at h) <;> (try exact Bool.noConfusion h)) | (with_reducible refine GStop_split ?_ ?_ <;> intro h <;> have h0 := h <;> (try simp only [nrm] at h) <;> (try exact Bool.noConfusion h) <;> have h2 := h <;> (try simp at h2) <;> (replace hs := And.intro h0 (And.intro h (And.intro h2 hs))) <;> simp -dsimp [h0, h, h2, hz, hs]) | (with_reducible refine imp_At (fun h => ?_); (try simp only [List.map_eq_nil_iff] at h); (try subst h); try simp -dsimp [hz, hs]) | with_reducible refine And.intro ?_ ?_
        all_goals try simp -dsimp [hz, hs]
        all_goals try clear hs
        rw [hE]
    · have hE : chainsOk c = false := by simp [chainsOk, hof]
      have hz : idx (nums c.reg) c.of < 0 := him.2 hof
      rw [hlet] at c1
      have hs : True := trivial
      repeat' first | (with_reducible first | refine q01 ?_ | refine q02 ?_ | refine q03 ?_ | refine q04 ?_ | refine q05 ?_ | refine q06 ?_ | refine q07 (by decide) ?_ | refine q08 ?_ | refine q09 ?_ | refine q10 ?_ | refine q11 ?_ | refine q12 ?_ | refine q13 ?_ | refine q14 ?_ | refine q15 ?_ | refine q16 ?_ | refine q17 ?_ | refine And.intro (by omega) ?_) | (with_reducible refine At.fn_ret (by simp -dsimp [hz, hs]; exact rfl) ?_) | (with_reducible refine At.fn_end (by simp -dsimp [hz, hs]; exact rfl) ?_) | (refine QCall_pure (c1) ?_; try simp -dsimp [hz, hs]) | (refine QCall_pure (c2) ?_; try simp -dsimp [hz, hs]) | (refine QCall_pure (c3) ?_; try simp -dsimp [hz, hs]) | (refine DT_regionM (id := 1) (nt := 125) 22 [0, 1, 2, 3, 4, 5, 6, 7, 8, 9, 31, 43, 72, 77, 89, 100, 124] mixed rfl (by kernel_rfl) ?_; simp -dsimp [hz, hs]) | (refine DT_regionM (id := 18) (nt := 125) 9 [0, 1, 2, 3, 4, 5, 6, 7, 8, 9, 31, 43, 72, 77, 89, 100, 124] mixed rfl (by kernel_rfl) ?_; simp -dsimp [hz, hs]) | (refine DT_regionM (id := 20) (nt := 125) 22 [0, 1, 2, 3, 4, 5, 6, 7, 8, 9, 31, 43, 72, 77, 89, 100, 124] mixed rfl (by kernel_rfl) ?_; simp -dsimp [hz, hs]) | (with_reducible refine DT_regionE [0, 1, 2, 3, 4, 5, 6, 7, 8, 9, 31, 43, 72, 77, 89, 100, 124] ?_; simp -dsimp [hz, hs]) | (refine DT_cond rfl (fun h => ?_) (fun h => ?_) <;> (try simp only [nrm] at h) <;> (try exact Bool.noConfusion h)) | (with_reducible refine GStop_split ?_ ?_ <;> intro h <;> have h0 := h <;> (try simp only [nrm] at h) <;> (try exact Bool.noConfusion h) <;> have h2 := h <;> (try simp at h2) <;> (replace hs := And.intro h0 (And.intro h (And.intro h2 hs))) <;> simp -dsimp [h0, h, h2, hz, hs]) | (with_reducible refine imp_At (fun h => ?_); (try simp only [List.map_eq_nil_iff] at h); (try subst h); try simp -dsimp [hz, hs]) | with_reducible refine And.intro ?_ ?_
      all_goals try simp -dsimp [hz, hs]
      all_goals try clear hs
      rw [hE]
  · have hlet' : lettersI c.reg c.lets = false := by simpa using hlet
    have hE : chainsOk c = false := by simp [chainsOk, hlet']
    rw [hlet'] at c1
    have hs : True := trivial
    repeat' first | (with_reducible first | refine q01 ?_ | refine q02 ?_ | refine q03 ?_ | refine q04 ?_ | refine q05 ?_ | refine q06 ?_ | refine q07 (by decide) ?_ | refine q08 ?_ | refine q09 ?_ | refine q10 ?_ | refine q11 ?_ | refine q12 ?_ | refine q13 ?_ | refine q14 ?_ | refine q15 ?_ | refine q16 ?_ | refine q17 ?_ | refine And.intro (by omega) ?_) | (with_reducible refine At.fn_ret (by simp -dsimp [hs]; exact rfl) ?_) | (with_reducible refine At.fn_end (by simp -dsimp [hs]; exact rfl) ?_) | (refine QCall_pure (c1) ?_; try simp -dsimp [hs]) | (refine DT_regionM (id := 1) (nt := 125) 22 [0, 1, 2, 3, 4, 5, 6, 7, 8, 9, 31, 43, 72, 77, 89, 100, 124] mixed rfl (by kernel_rfl) ?_; simp -dsimp [hs]) | (refine DT_regionM (id := 18) (nt := 125) 9 [0, 1, 2, 3, 4, 5, 6, 7, 8, 9, 31, 43, 72, 77, 89, 100, 124] mixed rfl (by kernel_rfl) ?_; simp -dsimp [hs]) | (refine DT_regionM (id := 20) (nt := 125) 22 [0, 1, 2, 3, 4, 5, 6, 7, 8, 9, 31, 43, 72, 77, 89, 100, 124] mixed rfl (by kernel_rfl) ?_; simp -dsimp [hs]) | (with_reducible refine DT_regionE [0, 1, 2, 3, 4, 5, 6, 7, 8, 9, 31, 43, 72, 77, 89, 100, 124] ?_; simp -dsimp [hs]) | (refine DT_cond rfl (fun h => ?_) (fun h => ?_) <;> (try simp only [nrm] at h) <;> (try exact Bool.noConfusion h)) | (with_reducible refine GStop_split ?_ ?_ <;> intro h <;> have h0 := h <;> (try simp only [nrm] at h) <;> (try exact Bool.noConfusion h) <;> have h2 := h <;> (try simp at h2) <;> (replace hs := And.intro h0 (And.intro h (And.intro h2 hs))) <;> simp -dsimp [h0, h, h2, hs]) | (with_reducible refine imp_At (fun h => ?_); (try simp only [List.map_eq_nil_iff] at h); (try subst h); try simp -dsimp [hs]) | with_reducible refine And.intro ?_ ?_
    all_goals try simp -dsimp [hs]
    all_goals try clear hs
    rw [hE]
theorem chainsOk_iff {c : Chains} (h0 : checkR c.reg = 0) : chainsE c = if chainsOk c then 0 else 60 := by
  rw [chainsE_zero h0]
  have : (chainsOk c = true) = (lettersI c.reg c.lets = true ∧ c.of ∈ nums c.reg ∧ (1 ≤ c.loops.length ∧ c.loops.length ≤ 6) ∧ c.loops.all (loopOkR c) = true) := by
    simp only [chainsOk, Bool.and_eq_true, decide_eq_true_eq, and_assoc]
  by_cases h : chainsOk c = true
  · rw [if_pos h, if_pos (this ▸ h)]
  · rw [if_neg h, if_neg (this ▸ h)]
theorem rChCheck_c (c : Chains) (hs : SmallC c) (objs : List DObj) : DCall Tryd.prog G 14 [chv c] objs (fun rr objs' => rr = iv (chainsE c) ∧ objs' = objs) := by
  refine DCall.frame ?_ (by simp) (by simp) objs
  refine DCall_intro Tryd.func14 rfl Tryd.ntmps14 (by simp) rfl ?_
  try simp only [chv]
  have c1 := rcheck_c (G := G) c.reg hs.1
  by_cases hck : checkR c.reg = 0
  · have c2 := rChains_c (G := G) c hs hck
    have hE := chainsOk_iff hck
    rw [hck] at c1
    cases hq : chainsOk c
    · rw [hq] at c2 hE
      have hs : True := trivial
      repeat' first | (with_reducible first | refine q01 ?_ | refine q02 ?_ | refine q03 ?_ | refine q04 ?_ | refine q05 ?_ | refine q06 ?_ | refine q07 (by decide) ?_ | refine q08 ?_ | refine q09 ?_ | refine q10 ?_ | refine q11 ?_ | refine q12 ?_ | refine q13 ?_ | refine q14 ?_ | refine q15 ?_ | refine q16 ?_ | refine q17 ?_ | refine And.intro (by omega) ?_) | (with_reducible refine At.fn_ret (by simp -dsimp [hs]; exact rfl) ?_) | (with_reducible refine At.fn_end (by simp -dsimp [hs]; exact rfl) ?_) | (refine CallE.pure (c1) ?_; try simp -dsimp [hs]) | (refine CallE.pure (c2) ?_; try simp -dsimp [hs]) | (with_reducible refine DT_regionE [0, 1, 2, 3, 8, 12] ?_; simp -dsimp [hs]) | (refine DT_cond rfl (fun h => ?_) (fun h => ?_) <;> (try simp only [nrm] at h) <;> (try exact Bool.noConfusion h)) | (with_reducible refine GStop_split ?_ ?_ <;> intro h <;> have h0 := h <;> (try simp only [nrm] at h) <;> (try exact Bool.noConfusion h) <;> have h2 := h <;> (try simp at h2) <;> (replace hs := And.intro h0 (And.intro h (And.intro h2 hs))) <;> simp -dsimp [h0, h, h2, hs]) | (with_reducible refine imp_At (fun h => ?_); (try simp only [List.map_eq_nil_iff] at h); (try subst h); try simp -dsimp [hs]) | with_reducible refine And.intro ?_ ?_
      all_goals try simp -dsimp [hs]
      all_goals try clear hs
      simp [hE]
    · rw [hq] at c2 hE
      have hs : True := trivial
      repeat' first | (with_reducible first | refine q01 ?_ | refine q02 ?_ | refine q03 ?_ | refine q04 ?_ | refine q05 ?_ | refine q06 ?_ | refine q07 (by decide) ?_ | refine q08 ?_ | refine q09 ?_ | refine q10 ?_ | refine q11 ?_ | refine q12 ?_ | refine q13 ?_ | refine q14 ?_ | refine q15 ?_ | refine q16 ?_ | refine q17 ?_ | refine And.intro (by omega) ?_) | (with_reducible refine At.fn_ret (by simp -dsimp [hs]; exact rfl) ?_) | (with_reducible refine At.fn_end (by simp -dsimp [hs]; exact rfl) ?_) | (refine CallE.pure (c1) ?_; try simp -dsimp [hs]) | (refine CallE.pure (c2) ?_; try simp -dsimp [hs]) | (with_reducible refine DT_regionE [0, 1, 2, 3, 8, 12] ?_; simp -dsimp [hs]) | (refine DT_cond rfl (fun h => ?_) (fun h => ?_) <;> (try simp only [nrm] at h) <;> (try exact Bool.noConfusion h)) | (with_reducible refine GStop_split ?_ ?_ <;> intro h <;> have h0 := h <;> (try simp only [nrm] at h) <;> (try exact Bool.noConfusion h) <;> have h2 := h <;> (try simp at h2) <;> (replace hs := And.intro h0 (And.intro h (And.intro h2 hs))) <;> simp -dsimp [h0, h, h2, hs]) | (with_reducible refine imp_At (fun h => ?_); (try simp only [List.map_eq_nil_iff] at h); (try subst h); try simp -dsimp [hs]) | with_reducible refine And.intro ?_ ?_
      all_goals try simp -dsimp [hs]
      all_goals try clear hs
      simp [hE]
  · have hE : chainsE c = checkR c.reg := by simp [chainsE, hck]
    have hs : True := trivial
    repeat' first | (with_reducible first | refine q01 ?_ | refine q02 ?_ | refine q03 ?_ | refine q04 ?_ | refine q05 ?_ | refine q06 ?_ | refine q07 (by decide) ?_ | refine q08 ?_ | refine q09 ?_ | refine q10 ?_ | refine q11 ?_ | refine q12 ?_ | refine q13 ?_ | refine q14 ?_ | refine q15 ?_ | refine q16 ?_ | refine q17 ?_ | refine And.intro (by omega) ?_) | (with_reducible refine At.fn_ret (by simp -dsimp [hck, hs]; exact rfl) ?_) | (with_reducible refine At.fn_end (by simp -dsimp [hck, hs]; exact rfl) ?_) | (refine CallE.pure (c1) ?_; try simp -dsimp [hck, hs]) | (with_reducible refine DT_regionE [0, 1, 2, 3, 8, 12] ?_; simp -dsimp [hck, hs]) | (refine DT_cond rfl (fun h => ?_) (fun h => ?_) <;> (try simp only [nrm] at h) <;> (try exact Bool.noConfusion h)) | (with_reducible refine GStop_split ?_ ?_ <;> intro h <;> have h0 := h <;> (try simp only [nrm] at h) <;> (try exact Bool.noConfusion h) <;> have h2 := h <;> (try simp at h2) <;> (replace hs := And.intro h0 (And.intro h (And.intro h2 hs))) <;> simp -dsimp [h0, h, h2, hck, hs]) | (with_reducible refine imp_At (fun h => ?_); (try simp only [List.map_eq_nil_iff] at h); (try subst h); try simp -dsimp [hck, hs]) | with_reducible refine And.intro ?_ ?_
    all_goals try simp -dsimp [hck, hs]
    all_goals try clear hs
    simp [hE]
theorem asked6_c (c : Chains) (n : Int) (hs : SmallC c) (objs : List DObj) : DCall Tryd.prog G 44 [chv c, iv n] objs (fun rr objs' => rr = iv (loopsE c n) ∧ objs' = objs) := by
  refine DCall.frame ?_ (by simp) (by simp) objs
  refine DCall_intro Tryd.func44 rfl Tryd.ntmps44 (by simp) rfl ?_
  try simp only [chv, iv]
  have c1 := rChCheck_c (G := G) c hs
  have hl := hs.2.2.1
  have hw : IntKind.i64.wrap ((c.loops.length : Int) - 1) = (c.loops.length : Int) - 1 := i64w (by omega) (by omega)
  have c2 := within6_c (G := G) n 0 ((c.loops.length : Int) - 1)
  have hE : loopsE c n = if chainsE c ≠ 0 then chainsE c else if 0 ≤ n ∧ n < c.loops.length then 0 else 2 := rfl
  by_cases hck : chainsE c = 0
  · rw [hck] at c1 hE
    by_cases hr : 0 ≤ n ∧ n < c.loops.length
    · have hq : (decide (0 ≤ n) && decide (n ≤ (c.loops.length : Int) - 1)) = true := by simp; omega
      rw [hq] at c2
      have hs : True := trivial
      repeat' first | (with_reducible first | refine q01 ?_ | refine q02 ?_ | refine q03 ?_ | refine q04 ?_ | refine q05 ?_ | refine q06 ?_ | refine q07 (by decide) ?_ | refine q08 ?_ | refine q09 ?_ | refine q10 ?_ | refine q11 ?_ | refine q12 ?_ | refine q13 ?_ | refine q14 ?_ | refine q15 ?_ | refine q16 ?_ | refine q17 ?_ | refine And.intro (by omega) ?_) | (with_reducible refine At.fn_ret (by simp -dsimp [hw, hs]; exact rfl) ?_) | (with_reducible refine At.fn_end (by simp -dsimp [hw, hs]; exact rfl) ?_) | (refine CallE.pure (c1) ?_; try simp -dsimp [hw, hs]) | (refine CallE.pure (c2) ?_; try simp -dsimp [hw, hs]) | (with_reducible refine DT_regionE [0, 1, 2, 4, 5, 9, 17] ?_; simp -dsimp [hw, hs]) | (refine DT_cond rfl (fun h => ?_) (fun h => ?_) <;> (try simp only [nrm] at h) <;> (try exact Bool.noConfusion h)) | (with_reducible refine GStop_split ?_ ?_ <;> intro h <;> have h0 := h <;> (try simp only [nrm] at h) <;> (try exact Bool.noConfusion h) <;> have h2 := h <;> (try simp at h2) <;> (replace hs := And.intro h0 (And.intro h (And.intro h2 hs))) <;> simp -dsimp [h0, h, h2, hw, hs]) | (with_reducible refine imp_At (fun h => ?_); (try simp only [List.map_eq_nil_iff] at h); (try subst h); try simp -dsimp [hw, hs]) | with_reducible refine And.intro ?_ ?_
      all_goals try simp -dsimp [hw, hs]
      all_goals try clear hs
      simp [hE, hr]
    · have hq : (decide (0 ≤ n) && decide (n ≤ (c.loops.length : Int) - 1)) = false := by
        rw [← Bool.not_eq_true]; simp; omega
      rw [hq] at c2
      have hs : True := trivial
      repeat' first | (with_reducible first | refine q01 ?_ | refine q02 ?_ | refine q03 ?_ | refine q04 ?_ | refine q05 ?_ | refine q06 ?_ | refine q07 (by decide) ?_ | refine q08 ?_ | refine q09 ?_ | refine q10 ?_ | refine q11 ?_ | refine q12 ?_ | refine q13 ?_ | refine q14 ?_ | refine q15 ?_ | refine q16 ?_ | refine q17 ?_ | refine And.intro (by omega) ?_) | (with_reducible refine At.fn_ret (by simp -dsimp [hw, hs]; exact rfl) ?_) | (with_reducible refine At.fn_end (by simp -dsimp [hw, hs]; exact rfl) ?_) | (refine CallE.pure (c1) ?_; try simp -dsimp [hw, hs]) | (refine CallE.pure (c2) ?_; try simp -dsimp [hw, hs]) | (with_reducible refine DT_regionE [0, 1, 2, 4, 5, 9, 17] ?_; simp -dsimp [hw, hs]) | (refine DT_cond rfl (fun h => ?_) (fun h => ?_) <;> (try simp only [nrm] at h) <;> (try exact Bool.noConfusion h)) | (with_reducible refine GStop_split ?_ ?_ <;> intro h <;> have h0 := h <;> (try simp only [nrm] at h) <;> (try exact Bool.noConfusion h) <;> have h2 := h <;> (try simp at h2) <;> (replace hs := And.intro h0 (And.intro h (And.intro h2 hs))) <;> simp -dsimp [h0, h, h2, hw, hs]) | (with_reducible refine imp_At (fun h => ?_); (try simp only [List.map_eq_nil_iff] at h); (try subst h); try simp -dsimp [hw, hs]) | with_reducible refine And.intro ?_ ?_
      all_goals try simp -dsimp [hw, hs]
      all_goals try clear hs
      simp [hE, hr]
  · have hs : True := trivial
    repeat' first | (with_reducible first | refine q01 ?_ | refine q02 ?_ | refine q03 ?_ | refine q04 ?_ | refine q05 ?_ | refine q06 ?_ | refine q07 (by decide) ?_ | refine q08 ?_ | refine q09 ?_ | refine q10 ?_ | refine q11 ?_ | refine q12 ?_ | refine q13 ?_ | refine q14 ?_ | refine q15 ?_ | refine q16 ?_ | refine q17 ?_ | refine And.intro (by omega) ?_) | (with_reducible refine At.fn_ret (by simp -dsimp [hck, hs]; exact rfl) ?_) | (with_reducible refine At.fn_end (by simp -dsimp [hck, hs]; exact rfl) ?_) | (refine CallE.pure (c1) ?_; try simp -dsimp [hck, hs]) | (with_reducible refine DT_regionE [0, 1, 2, 4, 5, 9, 17] ?_; simp -dsimp [hck, hs]) | (refine DT_cond rfl (fun h => ?_) (fun h => ?_) <;> (try simp only [nrm] at h) <;> (try exact Bool.noConfusion h)) | (with_reducible refine GStop_split ?_ ?_ <;> intro h <;> have h0 := h <;> (try simp only [nrm] at h) <;> (try exact Bool.noConfusion h) <;> have h2 := h <;> (try simp at h2) <;> (replace hs := And.intro h0 (And.intro h (And.intro h2 hs))) <;> simp -dsimp [h0, h, h2, hck, hs]) | (with_reducible refine imp_At (fun h => ?_); (try simp only [List.map_eq_nil_iff] at h); (try subst h); try simp -dsimp [hck, hs]) | with_reducible refine And.intro ?_ ?_
    all_goals try simp -dsimp [hck, hs]
    all_goals try clear hs
    simp [hE, hck]
theorem rReach_c (c : Chains) (n : Int) (hs : SmallC c) (objs : List DObj) : DCall Tryd.prog G 10 [chv c, iv n] objs (fun rr objs' => rr = .tup [refv (rLo c n) (rHi c n), iv (loopsE c n)] ∧ objs' = objs) := by
  refine DCall.frame ?_ (by simp) (by simp) objs
  refine DCall_intro Tryd.func10 rfl Tryd.ntmps10 (by simp) rfl ?_
  try simp only [chv, iv]
  have c1 := asked6_c (G := G) c n hs
  by_cases hE : loopsE c n = 0
  · obtain ⟨hck, k, rfl, hk⟩ := loopsE_zero hE
    have hx : c.loops[k]? = some c.loops[k] := by simp [hk]
    have c2 := rreach_c (G := G) c k hk hs (okC hck)
    have h1 : rLo c (k : Int) = endS c.loops[k].links (sizesI c c.loops[k]) false := by rw [rLo, if_pos hE]; simp only [loI, Int.toNat_natCast, hx]
    have h2 : rHi c (k : Int) = endS c.loops[k].links (sizesI c c.loops[k]) true := by rw [rHi, if_pos hE]; simp only [hiI, Int.toNat_natCast, hx]
    rw [← h1, ← h2] at c2
    rw [hE] at c1
    simp only [refv] at c2
    have hs : True := trivial
    repeat' first | (with_reducible first | refine q01 ?_ | refine q02 ?_ | refine q03 ?_ | refine q04 ?_ | refine q05 ?_ | refine q06 ?_ | refine q07 (by decide) ?_ | refine q08 ?_ | refine q09 ?_ | refine q10 ?_ | refine q11 ?_ | refine q12 ?_ | refine q13 ?_ | refine q14 ?_ | refine q15 ?_ | refine q16 ?_ | refine q17 ?_ | refine And.intro (by omega) ?_) | (with_reducible refine At.fn_ret (by simp -dsimp [hs]; exact rfl) ?_) | (with_reducible refine At.fn_end (by simp -dsimp [hs]; exact rfl) ?_) | (refine CallE.pure (c1) ?_; try simp -dsimp [hs]) | (refine CallE.pure (c2) ?_; try simp -dsimp [hs]) | (with_reducible refine DT_regionE [0, 1, 2, 4, 5, 6, 11] ?_; simp -dsimp [hs]) | (refine DT_cond rfl (fun h => ?_) (fun h => ?_) <;> (try simp only [nrm] at h) <;> (try exact Bool.noConfusion h)) | (with_reducible refine GStop_split ?_ ?_ <;> intro h <;> have h0 := h <;> (try simp only [nrm] at h) <;> (try exact Bool.noConfusion h) <;> have h2 := h <;> (try simp at h2) <;> (replace hs := And.intro h0 (And.intro h (And.intro h2 hs))) <;> simp -dsimp [h0, h, h2, hs]) | (with_reducible refine imp_At (fun h => ?_); (try simp only [List.map_eq_nil_iff] at h); (try subst h); try simp -dsimp [hs]) | with_reducible refine And.intro ?_ ?_
    all_goals try simp -dsimp [hs]
    all_goals try clear hs
    all_goals simp [hE]
  · rw [rLo, rHi, if_neg hE, if_neg hE]
    have hs : True := trivial
    repeat' first | (with_reducible first | refine q01 ?_ | refine q02 ?_ | refine q03 ?_ | refine q04 ?_ | refine q05 ?_ | refine q06 ?_ | refine q07 (by decide) ?_ | refine q08 ?_ | refine q09 ?_ | refine q10 ?_ | refine q11 ?_ | refine q12 ?_ | refine q13 ?_ | refine q14 ?_ | refine q15 ?_ | refine q16 ?_ | refine q17 ?_ | refine And.intro (by omega) ?_) | (with_reducible refine At.fn_ret (by simp -dsimp [hE, hs]; exact rfl) ?_) | (with_reducible refine At.fn_end (by simp -dsimp [hE, hs]; exact rfl) ?_) | (refine CallE.pure (c1) ?_; try simp -dsimp [hE, hs]) | (with_reducible refine DT_regionE [0, 1, 2, 4, 5, 6, 11] ?_; simp -dsimp [hE, hs]) | (refine DT_cond rfl (fun h => ?_) (fun h => ?_) <;> (try simp only [nrm] at h) <;> (try exact Bool.noConfusion h)) | (with_reducible refine GStop_split ?_ ?_ <;> intro h <;> have h0 := h <;> (try simp only [nrm] at h) <;> (try exact Bool.noConfusion h) <;> have h2 := h <;> (try simp at h2) <;> (replace hs := And.intro h0 (And.intro h (And.intro h2 hs))) <;> simp -dsimp [h0, h, h2, hE, hs]) | (with_reducible refine imp_At (fun h => ?_); (try simp only [List.map_eq_nil_iff] at h); (try subst h); try simp -dsimp [hE, hs]) | with_reducible refine And.intro ?_ ?_
    all_goals try simp -dsimp [hE, hs]
    all_goals try clear hs
theorem rCloses_c (c : Chains) (n : Int) (hs : SmallC c) (objs : List DObj) : DCall Tryd.prog G 12 [chv c, iv n] objs (fun rr objs' => rr = .tup [u8v (closesK c n), iv (loopsE c n)] ∧ objs' = objs) := by
  refine DCall.frame ?_ (by simp) (by simp) objs
  refine DCall_intro Tryd.func12 rfl Tryd.ntmps12 (by simp) rfl ?_
  try simp only [chv, iv]
  have c1 := rReach_c (G := G) c n hs
  by_cases hE : loopsE c n = 0
  · obtain ⟨hck, k, rfl, hk⟩ := loopsE_zero hE
    have hx : c.loops[k]? = some c.loops[k] := by simp [hk]
    have hK : closesK c (k : Int) = if c.loops[k].lo ≤ rLo c (k : Int) ∧ rHi c (k : Int) ≤ c.loops[k].hi then 2 else if rHi c (k : Int) < c.loops[k].lo ∨ c.loops[k].hi < rLo c (k : Int) then 0 else 1 := by simp only [closesK, clK, Int.toNat_natCast, hx, if_pos hE]
    generalize rLo c (k : Int) = a at *
    generalize rHi c (k : Int) = b at *
    simp only [refv, hE] at c1
    have hs : True := trivial
    repeat' first | (with_reducible first | refine q01 ?_ | refine q02 ?_ | refine q03 ?_ | refine q04 ?_ | refine q05 ?_ | refine q06 ?_ | refine q07 (by decide) ?_ | refine q08 ?_ | refine q09 ?_ | refine q10 ?_ | refine q11 ?_ | refine q12 ?_ | refine q13 ?_ | refine q14 ?_ | refine q15 ?_ | refine q16 ?_ | refine q17 ?_ | refine And.intro (by omega) ?_) | (with_reducible refine At.fn_ret (by simp -dsimp [hx, hk, hs]; exact rfl) ?_) | (with_reducible refine At.fn_end (by simp -dsimp [hx, hk, hs]; exact rfl) ?_) | (refine CallE.pure (c1) ?_; try simp -dsimp [hx, hk, hs]) | (with_reducible refine DT_regionE [0, 1, 2, 4, 5, 6, 7, 8, 16, 24, 37] ?_; simp -dsimp [hx, hk, hs]) | (refine DT_cond rfl (fun h => ?_) (fun h => ?_) <;> (try simp only [nrm] at h) <;> (try exact Bool.noConfusion h)) | (with_reducible refine GStop_split ?_ ?_ <;> intro h <;> have h0 := h <;> (try simp only [nrm] at h) <;> (try exact Bool.noConfusion h) <;> have h2 := h <;> (try simp at h2) <;> (replace hs := And.intro h0 (And.intro h (And.intro h2 hs))) <;> simp -dsimp [h0, h, h2, hx, hk, hs]) | (with_reducible refine imp_At (fun h => ?_); (try simp only [List.map_eq_nil_iff] at h); (try subst h); try simp -dsimp [hx, hk, hs]) | with_reducible refine And.intro ?_ ?_
    all_goals try simp -dsimp [hx, hk, hs]
    all_goals try clear hs
    all_goals first
      | (exfalso; omega)
      | (rw [if_pos (by omega)] at hK; simp [hK, hE]; done)
      | (rw [if_neg (by omega), if_pos (by omega)] at hK; simp [hK, hE]; done)
      | (rw [if_neg (by omega), if_neg (by omega)] at hK; simp [hK, hE])
  · have hK : closesK c n = 0 := by simp [closesK, hE]
    have hs : True := trivial
    repeat' first | (with_reducible first | refine q01 ?_ | refine q02 ?_ | refine q03 ?_ | refine q04 ?_ | refine q05 ?_ | refine q06 ?_ | refine q07 (by decide) ?_ | refine q08 ?_ | refine q09 ?_ | refine q10 ?_ | refine q11 ?_ | refine q12 ?_ | refine q13 ?_ | refine q14 ?_ | refine q15 ?_ | refine q16 ?_ | refine q17 ?_ | refine And.intro (by omega) ?_) | (with_reducible refine At.fn_ret (by simp -dsimp [hE, hs]; exact rfl) ?_) | (with_reducible refine At.fn_end (by simp -dsimp [hE, hs]; exact rfl) ?_) | (refine CallE.pure (c1) ?_; try simp -dsimp [hE, hs]) | (with_reducible refine DT_regionE [0, 1, 2, 4, 5, 6, 7, 8, 16, 24, 37] ?_; simp -dsimp [hE, hs]) | (refine DT_cond rfl (fun h => ?_) (fun h => ?_) <;> (try simp only [nrm] at h) <;> (try exact Bool.noConfusion h)) | (with_reducible refine GStop_split ?_ ?_ <;> intro h <;> have h0 := h <;> (try simp only [nrm] at h) <;> (try exact Bool.noConfusion h) <;> have h2 := h <;> (try simp at h2) <;> (replace hs := And.intro h0 (And.intro h (And.intro h2 hs))) <;> simp -dsimp [h0, h, h2, hE, hs]) | (with_reducible refine imp_At (fun h => ?_); (try simp only [List.map_eq_nil_iff] at h); (try subst h); try simp -dsimp [hE, hs]) | with_reducible refine And.intro ?_ ?_
    all_goals try simp -dsimp [hE, hs]
    all_goals try clear hs
    all_goals simp [hK]
end Go.Proofs
