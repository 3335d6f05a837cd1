/- Part 26 of the proofs: laws and walks that hold without conditions beyond those that each theorem names. -/
import Derived.Test.YtfbojhlifomnfaaGreatDoorA25
set_option linter.all false
set_option linter.deprecated false
namespace Go.Proofs
open Go Go.Ab
set_option linter.unusedSimpArgs false
variable {G : Nat → Option (List IC)}
attribute [simp] permL reO gones noLoop nilV nilX ZK
theorem collect_c (c : Chains) (D : List (Int × Int)) (hOk : OkC c) (hsm : SmallC c) (hSF : SortFOk G) (objs : List DObj) : DCall Tryz.prog G 76 [.one (.im (.fn (.func 123) [.ip [deskC c D (tkM c.reg c.lets)]]))] objs (fun rr objs' => rr = .one (.im (.sl ((allSpots c).map encSpot))) ∧ objs' = objs) := by
 refine DCall.frame ?_ (by simp) (by simp) objs
 refine DCall_intro Tryz.func76 rfl Tryz.ntmps76 (by simp) rfl ?_
 try simp only [iv]
 have c1 := appendSeq_c (G := G) c D hOk hsm hSF
 simp only [deskC] at c1
 simp only [deskC]
 have hs : True := trivial
 repeat' first | (with_reducible first | refine q01 ?_ | refine q11 ?_ | refine q17 ?_) | (with_reducible refine At.fn_ret (by simp -dsimp [hs]; exact rfl) ?_) | (refine CallE.pure (c1) ?_; try simp -dsimp [hs]) | (with_reducible refine DT_regionR [0,2] ?_; simp -dsimp [hs])
 all_goals try simp -dsimp [hs]
 all_goals try clear hs
def spotsR (c : Chains) : List Spot := if chainsE c = 0 then allSpots c else []
theorem pSpots_c (c : Chains) (hG : sheetG G) (hC : chainG G) (hsm : SmallC c) (hSF : SortFOk G) (objs : List DObj) : DCall Tryz.prog G 24 [chv c] objs (fun rr objs' => rr = .tup [spotsv (spotsR c), iv (chainsE c)] ∧ objs' = objs) := by
 refine DCall.frame ?_ (by simp) (by simp) objs
 refine DCall_intro Tryz.func24 rfl Tryz.ntmps24 (by simp) rfl ?_
 try simp only [chv]
 have c1 := chOpen_c c hG hC hsm
 simp only [spotsv]
 by_cases h00 : chainsE c = 0
 ·have hOk := okC h00
  have c2 := spotsF_c (G := G) (deskC c (cntD c) (tkM c.reg c.lets))
  have c3 := collect_c (G := G) c (cntD c) hOk hsm hSF
  rw [h00] at c1
  rw [spotsR, if_pos h00, h00]
  simp only [deskR, h00, if_true, deskC] at c1
  simp only [deskC] at c2 c3
  have hs : True := trivial
  repeat' first | (with_reducible first | refine q01 ?_ | refine q11 ?_ | refine q14 ?_ | refine q17 ?_) | (with_reducible refine At.fn_ret (by simp -dsimp [hs]; exact rfl) ?_) | (refine CallE.pure (c1) ?_; try simp -dsimp [hs]) | (refine CallE.pure (c2) ?_; try simp -dsimp [hs]) | (refine CallE.pure (c3) ?_; try simp -dsimp [hs]) | (with_reducible refine DT_regionE [0,1,2,3,4,5,12] ?_; simp -dsimp [hs]) | (refine DT_cond rfl (fun h => ?_) (fun h => ?_) <;> (try simp only [nrm] at h) <;> (try exact Bool.noConfusion h))
  all_goals try simp -dsimp [hs]
  all_goals try clear hs
 ·obtain ⟨X, hX⟩ := deskR_one c
  rw [hX] at c1
  rw [spotsR, if_neg h00]
  have hs : True := trivial
  repeat' first | (with_reducible first | refine q01 ?_ | refine q02 ?_ | refine q11 ?_ | refine q17 ?_) | (with_reducible refine At.fn_ret (by simp -dsimp [h00, hs]; exact rfl) ?_) | (refine CallE.pure (c1) ?_; try simp -dsimp [h00, hs]) | (with_reducible refine DT_regionE [0,1,2,3,4,5,12] ?_; simp -dsimp [h00, hs]) | (refine DT_cond rfl (fun h => ?_) (fun h => ?_) <;> (try simp only [nrm] at h) <;> (try exact Bool.noConfusion h))
  all_goals try simp -dsimp [h00, hs]
  all_goals try clear hs
theorem rBefore_c (a b : Spot) (objs : List DObj) : DCall Tryz.prog G 95 [refv a.drawing a.dim, refv b.drawing b.dim] objs (fun rr objs' => rr = bv (before a b) ∧ objs' = objs) := by
 refine DCall.frame ?_ (by simp) (by simp) objs
 refine DCall_intro Tryz.func95 rfl Tryz.ntmps95 (by simp) rfl ?_
 try simp only [refv, refv]
 have hE : before a b = (decide (a.drawing < b.drawing) || (decide (a.drawing = b.drawing) && decide (a.dim < b.dim))) := rfl
 have hs : True := trivial
 repeat' first | (with_reducible first | refine q01 ?_ | refine q11 ?_ | refine q17 ?_) | (with_reducible refine At.fn_ret (by simp -dsimp [hs]; exact rfl) ?_) | (with_reducible refine DT_regionE [0,1,2,3,4] ?_; simp -dsimp [hs]) | (with_reducible refine GStop_split ?_ ?_ <;> intro h <;> have h0 := h <;> (try simp only [nrm] at h) <;> (try exact Bool.noConfusion h) <;> have h2 := h <;> (try simp at h2) <;> (replace hs := And.intro h0 (And.intro h (And.intro h2 hs))) <;> simp -dsimp [h0, h, h2, hs])
 all_goals try simp -dsimp [hs]
 all_goals try clear hs
 all_goals simp_all
def stdR (c : Chains) (d : Int) : Bool := decide ((takeI c.reg c.lets d).kind = 3)
theorem rStandard_c (c : Chains) (d : Int) (hl : c.reg.length < 1000000) (hd : d ∈ nums c.reg) (hll : c.lets.length = (nums c.reg).length) (objs : List DObj) : DCall Tryz.prog G 125 [chv c, iv d] objs (fun rr objs' => rr = bv (stdR c d) ∧ objs' = objs) := by
 refine DCall.frame ?_ (by simp) (by simp) objs
 refine DCall_intro Tryz.func125 rfl Tryz.ntmps125 (by simp) rfl ?_
 try simp only [chv, iv]
 have c1 := taken_c (G := G) c.reg c.lets d hl hd hll
 have hE : stdR c d = decide ((takeI c.reg c.lets d).kind = 3) := rfl
 generalize takeI c.reg c.lets d = t at *
 have hs : True := trivial
 repeat' first | (with_reducible first | refine q01 ?_ | refine q11 ?_ | refine q17 ?_) | (with_reducible refine At.fn_ret (by simp -dsimp [hs]; exact rfl) ?_) | (refine CallE.pure (c1) ?_; try simp -dsimp [hs]) | (with_reducible refine DT_regionE [0,1,2,4] ?_; simp -dsimp [hs])
 all_goals try simp -dsimp [hs]
 all_goals try clear hs
 all_goals simp_all
theorem insAt_step {x : Spot} {l : List Spot} {n : Nat} (h : n < l.length) : insAt x (l.drop n) = if before l[n] x then insAt x (l.drop (n + 1)) + 1 else 0 := by
 rw [List.drop_eq_getElem_cons h, insAt]
theorem ims_insS (x : Spot) (l : List Spot) : (ims (l.map encSpot)).take (insAt x l) ++ [(encSpot x).map .im] ++ ims ((l.map encSpot).drop (insAt x l)) = ims ((insS x l).map encSpot) := by
 simp [insS, ims, List.map_take, List.map_drop]
set_option maxHeartbeats 4000000 in
theorem rAll_c (c : Chains) (hOk : OkC c) (hsm : SmallC c) (objs : List DObj) : DCall Tryz.prog G 78 [chv c] objs (fun rr objs' => rr = spotsv (allSpots c) ∧ objs' = objs) := by
 refine DCall.frame ?_ (by simp) (by simp) objs
 refine DCall_intro Tryz.func78 rfl Tryz.ntmps78 (by simp) rfl ?_
 try simp only [chv]
 have hll : c.lets.length = (nums c.reg).length := by
  have := hOk.lets
  simp only [lettersI, Bool.and_eq_true, decide_eq_true_eq] at this; exact this.1
 have hreg := hsm.1.1
 simp only [spotsv]
 have hs : True := trivial
 repeat' first | (with_reducible first | refine q01 ?_ | refine q11 ?_ | refine q12 ?_) | (with_reducible refine DT_regionE [0,1,2,3,4,5,6,7,8,13,24,45,57] ?_; simp -dsimp [hs])
 all_goals try simp -dsimp [hs]
 all_goals try clear hs
 refine DT_loop (ι := { p : Nat × Nat × Bool × List Spot // p.1 ≤ c.loops.length ∧ ((c.loops.drop p.1).flatMap fun x => x.links.map spotOf).foldl (addS (looseR c)) p.2.2.2 = allSpots c ∧ p.2.2.2.length ≤ 12 * p.1 }) (fun p => ⟨74, [(1, .one (.ptr 0 0)), (3, .one (.vec 2 p.1.2.1 0 p.1.2.2.2.length)), (4, iv (p.1.1 : Int))], [.row ((encChains c).map .im), .vec 2 [] 0 true, .vec 2 (ims (p.1.2.2.2.map encSpot)) p.1.2.1 p.1.2.2.1]⟩) (fun p => c.loops.length - p.1.1) ⟨(0, 0, true, []), by simp [allSpots, spotsOf, allS]⟩ (Weak.of_keep [1,3,4] (by simp)) ?_
 rintro ⟨⟨i, gn, nl, out⟩, hi, hL, hlen⟩
 simp only at hi hL hlen
 simp only [iv]
 have hl10 := hsm.2.2.1
 by_cases hlt : i < c.loops.length
 ·have hx : c.loops[i]? = some c.loops[i] := by simp [hlt]
  have hw : IntKind.i64.wrap ((i : Int) + 1) = ((i + 1 : Nat) : Int) := i64w (by omega) (by omega)
  have hln := hsm.2.2.2 c.loops[i] (List.getElem_mem hlt)
  have hlk := hOk.link c.loops[i] (List.getElem_mem hlt)
  rw [List.drop_eq_getElem_cons hlt, List.flatMap_cons, List.foldl_append] at hL
  generalize hxe : c.loops[i] = x at *
  have hs : True := trivial
  repeat' first | (with_reducible first | refine q01 ?_ | refine q11 ?_ | refine q12 ?_ | refine q14 ?_) | (with_reducible refine DT_regionE [0,1,2,3,4,5,6,7,8,13,24,45,57] ?_; simp -dsimp [hlt, hs]) | (refine DT_cond rfl (fun h => ?_) (fun h => ?_) <;> (try simp only [nrm] at h) <;> (try exact Bool.noConfusion h))
  all_goals try simp -dsimp [hlt, hs]
  all_goals try clear hs
  refine DT_loop (ι := { p : Nat × Nat × Bool × List Spot // p.1 ≤ x.links.length ∧ ((x.links.drop p.1).map spotOf).foldl (addS (looseR c)) p.2.2.2 = (x.links.map spotOf).foldl (addS (looseR c)) out ∧ p.2.2.2.length ≤ 12 * i + p.1 }) (fun p => ⟨74, [(1, .one (.ptr 0 0)), (3, .one (.vec 2 p.1.2.1 0 p.1.2.2.2.length)), (4, iv (i : Int)), (5, iv (p.1.1 : Int))], [.row ((encChains c).map .im), .vec 2 [] 0 true, .vec 2 (ims (p.1.2.2.2.map encSpot)) p.1.2.1 p.1.2.2.1]⟩) (fun p => x.links.length - p.1.1) ⟨(0, gn, nl, out), by simp [hlen]⟩ (Weak.of_keep [1,3,4,5] (by simp)) ?_
  rintro ⟨⟨u, gn', nl', out'⟩, hu, hL', hlen'⟩
  simp only at hu hL' hlen'
  simp only [iv]
  by_cases hlu : u < x.links.length
  ·have hy : x.links[u]? = some x.links[u] := by simp [hlu]
   have hwu : IntKind.i64.wrap ((u : Int) + 1) = ((u + 1 : Nat) : Int) := i64w (by omega) (by omega)
   rw [List.drop_eq_getElem_cons hlu, List.map_cons, List.foldl_cons] at hL'
   have hmem := (hlk x.links[u] (List.getElem_mem hlu)).1
   generalize hye : x.links[u] = y at *
   have c1 := spotOf_c (G := G) y
   have c2 := rStandard_c (G := G) c y.drawing (by omega) hmem hll
   have c3 := in6G_c (G := G) out' y.drawing y.dim (by omega)
   simp only [refv, linkv, encLink, List.map_cons, List.map_nil] at c1
   simp only [spotsv, refv] at c3
   have hstd : stdR c y.drawing = !looseR c (spotOf y) := by
    by_cases hk3 : (takeI c.reg c.lets y.drawing).kind = 3 <;> simp [stdR, looseR, spotOf, hk3]
   cases hq : stdR c y.drawing
   ·rw [hq] at c2
    cases hq2 : inS out' ⟨y.drawing, y.dim⟩
    ·rw [hq2] at c3
     have hadd : addS (looseR c) out' (spotOf y) = insS (spotOf y) out' := by
      unfold addS
      rw [if_neg]
      simp only [inS, decide_eq_false_iff_not] at hq2
      rw [hq] at hstd
      simp only [spotOf] at *
      simp_all
     rw [hadd] at hL'
     have hs : True := trivial
     repeat' first | (with_reducible first | refine q01 ?_ | refine q11 ?_ | refine q12 ?_ | refine q14 ?_) | (refine CallE.pure (c1) ?_; try simp -dsimp [hx, hlt, hxe, hy, hlu, hye, hs]) | (refine CallE.pure (c2) ?_; try simp -dsimp [hx, hlt, hxe, hy, hlu, hye, hs]) | (refine CallE.thaw (c3) ?_ ?_ ?_; (focus (simp; done)); (focus (simp; done)); try simp -dsimp [hx, hlt, hxe, hy, hlu, hye, hs]) | (with_reducible refine DT_regionE [0,1,2,3,4,5,6,7,8,13,24,45,57] ?_; simp -dsimp [hx, hlt, hxe, hy, hlu, hye, hs]) | (refine DT_cond rfl (fun h => ?_) (fun h => ?_) <;> (try simp only [nrm] at h) <;> (try exact Bool.noConfusion h))
     all_goals try simp -dsimp [hx, hlt, hxe, hy, hlu, hye, hs]
     all_goals try clear hs
     refine DT_loop (ι := { n : Nat // n ≤ out'.length ∧ insAt (spotOf y) out' = n + insAt (spotOf y) (out'.drop n) }) (fun p => ⟨74, [(1, .one (.ptr 0 0)), (3, .one (.vec 2 gn' 0 out'.length)), (4, iv (i : Int)), (5, iv (u : Int)), (6, .one (.ptr 3 0)), (7, iv (p.1 : Int))], [.row ((encChains c).map .im), .vec 2 [] 0 true, .vec 2 (ims (out'.map encSpot)) gn' nl', .row [.im (rI y.drawing), .im (rI y.dim)]]⟩) (fun p => out'.length - p.1) ⟨0, by simp⟩ (Weak.of_keep [1,3,4,5,6,7] (by simp)) ?_
     rintro ⟨n, hn, hins⟩
     simp only [iv]
     by_cases hlv : n < out'.length
     ·have hz : out'[n]? = some out'[n] := by simp [hlv]
      have hwn : IntKind.i64.wrap ((n : Int) + 1) = ((n + 1 : Nat) : Int) := i64w (by omega) (by omega)
      rw [insAt_step hlv] at hins
      generalize hze : out'[n] = z at *
      have c4 := rBefore_c (G := G) z (spotOf y)
      simp only [refv, spotOf] at c4
      cases hq3 : before z (spotOf y)
      ·rw [hq3] at hins
       simp only [spotOf] at hq3
       rw [hq3] at c4
       simp only [Bool.false_eq_true, if_false, Nat.add_zero] at hins
       have hfin := ims_insS (spotOf y) out'
       rw [hins] at hfin
       have hsl := insS_len (spotOf y) out'
       generalize insS (spotOf y) out' = fin at *
       simp only [spotOf, encSpot, rI, List.map_cons, List.map_nil] at hfin
       have hs : True := trivial
       repeat' first | (with_reducible first | refine q01 ?_ | refine q03 ?_ | refine q04 ?_ | refine q06 ?_ | refine q11 ?_ | refine q16 ?_ | refine And.intro (by omega) ?_) | (refine QCall_pure (c4) ?_; try simp -dsimp [hz, hlv, hze, hn, hs]) | (refine DT_regionZ (id := 14) (nt := 74) [0,1,2,3,4,6,5,7,8] 6 [([5], [0,1,2,3,4,5,6,7,8,13,24,45,57,67,69])] [0,1,2,3,4,5,6,7,8,13,24,45,57] mixed rfl (by kernel_rfl) (by kernel_rfl) ?_; simp -dsimp [hz, hlv, hze, hn, hs]) | (refine DT_regionM (id := 11) (nt := 74) 12 [0,1,2,3,4,5,6,7,8,13,24,45,57] mixed rfl (by kernel_rfl) ?_; simp -dsimp [hz, hlv, hze, hn, hs]) | (with_reducible refine DT_regionE [0,1,2,3,4,5,6,7,8,13,24,45,57] ?_; simp -dsimp [hz, hlv, hze, hn, hs]) | (refine DT_cond rfl (fun h => ?_) (fun h => ?_) <;> (try simp only [nrm] at h) <;> (try exact Bool.noConfusion h)) | with_reducible refine And.intro ?_ ?_
       all_goals try simp -dsimp [hz, hlv, hze, hn, hs]
       all_goals try clear hs
       ·intro e he
        have he := List.mem_of_mem_drop (List.mem_of_mem_take he)
        simp only [ims, List.map_map, List.mem_map] at he
        obtain ⟨w, _, rfl⟩ := he
        rfl
       ·omega
       have hs : True := trivial
       all_goals try simp -dsimp [hn, hwu, hs]
       all_goals try clear hs
       ·intro e he
        have he := List.mem_of_mem_drop (List.mem_of_mem_take (List.mem_of_mem_take he))
        simp only [ims, List.map_map, List.mem_map] at he
        obtain ⟨w, _, rfl⟩ := he
        rfl
       ·omega
       refine At.round ⟨(u + 1, gn' + 1 + 1, false, fin), by omega, hL', by show fin.length ≤ 12 * i + (u + 1); omega⟩ (by simp; omega) (Weak.of_drop [1,3,4,5] 3 (by simp) (by simp) ?_)
       simp
       refine ⟨⟨by omega, by simpa using hwu⟩, ?_⟩
       rw [List.take_of_length_le (l := List.take n _ ++ _) (by simp [ims_length]; omega), List.take_of_length_le (l := List.take _ _) (by simp), List.take_of_length_le (l := List.drop _ _) (by simp [ims_length]), ← hfin]
       simp [ims, List.map_drop]
      ·rw [hq3] at hins
       simp only [spotOf] at hq3
       rw [hq3] at c4
       rw [if_pos rfl] at hins
       have hs : True := trivial
       repeat' first | (with_reducible first | refine q01 ?_ | refine q04 ?_ | refine q11 ?_ | refine q12 ?_ | refine q14 ?_) | (refine QCall_pure (c4) ?_; try simp -dsimp [hz, hlv, hze, hwn, hs]) | (refine DT_regionM (id := 11) (nt := 74) 12 [0,1,2,3,4,5,6,7,8,13,24,45,57] mixed rfl (by kernel_rfl) ?_; simp -dsimp [hz, hlv, hze, hwn, hs]) | (with_reducible refine DT_regionE [0,1,2,3,4,5,6,7,8,13,24,45,57] ?_; simp -dsimp [hz, hlv, hze, hwn, hs]) | (refine DT_cond rfl (fun h => ?_) (fun h => ?_) <;> (try simp only [nrm] at h) <;> (try exact Bool.noConfusion h))
       all_goals try simp -dsimp [hz, hlv, hze, hwn, hs]
       all_goals try clear hs
       exact At.round ⟨n + 1, by omega, by omega⟩ (by simp; omega) (Weak.of_keep [1,3,4,5,6,7] (by simp))
     ·have hnn : n = out'.length := by omega
      subst hnn
      have hn0 : insAt (spotOf y) out' = out'.length := by rw [hins, List.drop_length]; rfl
      have hfin := ims_insS (spotOf y) out'
      rw [hn0] at hfin
      have hsl := insS_len (spotOf y) out'
      generalize insS (spotOf y) out' = fin at *
      simp only [spotOf, encSpot, rI, List.map_cons, List.map_nil] at hfin
      have hs : True := trivial
      repeat' first | (with_reducible first | refine q01 ?_ | refine q03 ?_ | refine q04 ?_ | refine q06 ?_ | refine q11 ?_ | refine q16 ?_ | refine And.intro (by omega) ?_) | (refine DT_regionZ (id := 14) (nt := 74) [0,1,2,3,4,6,5,7,8] 6 [([5], [0,1,2,3,4,5,6,7,8,13,24,45,57,67,69])] [0,1,2,3,4,5,6,7,8,13,24,45,57] mixed rfl (by kernel_rfl) (by kernel_rfl) ?_; simp -dsimp [hlv, hn, hwu, hs]) | (refine DT_regionM (id := 11) (nt := 74) 12 [0,1,2,3,4,5,6,7,8,13,24,45,57] mixed rfl (by kernel_rfl) ?_; simp -dsimp [hlv, hn, hwu, hs]) | (with_reducible refine DT_regionE [0,1,2,3,4,5,6,7,8,13,24,45,57] ?_; simp -dsimp [hlv, hn, hwu, hs]) | (refine DT_cond rfl (fun h => ?_) (fun h => ?_) <;> (try simp only [nrm] at h) <;> (try exact Bool.noConfusion h))
      all_goals try simp -dsimp [hlv, hn, hwu, hs]
      all_goals try clear hs
      all_goals try omega
      refine At.round ⟨(u + 1, gn' + 1 + 1, false, fin), by omega, hL', by show fin.length ≤ 12 * i + (u + 1); omega⟩ (by simp; omega) (Weak.of_drop [1,3,4,5] 3 (by simp) (by simp) ?_)
      simp
      refine ⟨by omega, ?_⟩
      rw [List.take_of_length_le (by simp [ims_length]), ← hfin, List.take_of_length_le (l := ims _) (by simp [ims_length])]
      simp [ims]
    ·rw [hq2] at c3
     have hadd : addS (looseR c) out' (spotOf y) = out' := by
      unfold addS
      rw [if_pos]
      simp only [inS, decide_eq_true_eq] at hq2
      exact .inr hq2
     rw [hadd] at hL'
     have hs : True := trivial
     repeat' first | (with_reducible first | refine q01 ?_ | refine q03 ?_ | refine q06 ?_ | refine q11 ?_ | refine q12 ?_ | refine q14 ?_ | refine q16 ?_) | (refine CallE.pure (c1) ?_; try simp -dsimp [hx, hlt, hxe, hy, hlu, hye, hwu, hs]) | (refine CallE.pure (c2) ?_; try simp -dsimp [hx, hlt, hxe, hy, hlu, hye, hwu, hs]) | (refine CallE.thaw (c3) ?_ ?_ ?_; (focus (simp; done)); (focus (simp; done)); try simp -dsimp [hx, hlt, hxe, hy, hlu, hye, hwu, hs]) | (with_reducible refine DT_regionE [0,1,2,3,4,5,6,7,8,13,24,45,57] ?_; simp -dsimp [hx, hlt, hxe, hy, hlu, hye, hwu, hs]) | (refine DT_cond rfl (fun h => ?_) (fun h => ?_) <;> (try simp only [nrm] at h) <;> (try exact Bool.noConfusion h))
     all_goals try simp -dsimp [hx, hlt, hxe, hy, hlu, hye, hwu, hs]
     all_goals try clear hs
     exact At.round ⟨(u + 1, gn', nl', out'), by omega, hL', by show out'.length ≤ 12 * i + (u + 1); omega⟩ (by simp; omega) (Weak.of_drop [1,3,4,5] 3 (by simp) (by simp) (by simp))
   ·rw [hq] at c2
    have hadd : addS (looseR c) out' (spotOf y) = out' := by
     unfold addS
     rw [if_pos]
     rw [hq] at hstd
     left
     simpa using hstd
    rw [hadd] at hL'
    have hs : True := trivial
    repeat' first | (with_reducible first | refine q01 ?_ | refine q03 ?_ | refine q06 ?_ | refine q11 ?_ | refine q12 ?_ | refine q14 ?_ | refine q16 ?_) | (refine CallE.pure (c1) ?_; try simp -dsimp [hx, hlt, hxe, hy, hlu, hye, hwu, hs]) | (refine CallE.pure (c2) ?_; try simp -dsimp [hx, hlt, hxe, hy, hlu, hye, hwu, hs]) | (with_reducible refine DT_regionE [0,1,2,3,4,5,6,7,8,13,24,45,57] ?_; simp -dsimp [hx, hlt, hxe, hy, hlu, hye, hwu, hs]) | (refine DT_cond rfl (fun h => ?_) (fun h => ?_) <;> (try simp only [nrm] at h) <;> (try exact Bool.noConfusion h))
    all_goals try simp -dsimp [hx, hlt, hxe, hy, hlu, hye, hwu, hs]
    all_goals try clear hs
    exact At.round ⟨(u + 1, gn', nl', out'), by omega, hL', by show out'.length ≤ 12 * i + (u + 1); omega⟩ (by simp; omega) (Weak.of_drop [1,3,4,5] 3 (by simp) (by simp) (by simp))
  ·rw [List.drop_eq_nil_of_le (by omega)] at hL'
   have hLn : out' = (x.links.map spotOf).foldl (addS (looseR c)) out := hL'
   rw [← hLn] at hL
   have hs : True := trivial
   repeat' first | (with_reducible first | refine q01 ?_ | refine q03 ?_ | refine q04 ?_ | refine q06 ?_ | refine q11 ?_ | refine q16 ?_) | (with_reducible refine DT_regionE [0,1,2,3,4,5,6,7,8,13,24,45,57] ?_; simp -dsimp [hx, hlt, hxe, hlu, hw, hs]) | (refine DT_cond rfl (fun h => ?_) (fun h => ?_) <;> (try simp only [nrm] at h) <;> (try exact Bool.noConfusion h))
   all_goals try simp -dsimp [hx, hlt, hxe, hlu, hw, hs]
   all_goals try clear hs
   exact At.round ⟨(i + 1, gn', nl', out'), by omega, hL, by show out'.length ≤ 12 * (i + 1); omega⟩ (by simp; omega) (Weak.of_drop [1,3,4] 3 (by simp) (by simp) (by simp))
 ·rw [List.drop_eq_nil_of_le (by omega)] at hL
  have hLn : out = allSpots c := hL
  subst hLn
  have hs : True := trivial
  repeat' first | (with_reducible first | refine q01 ?_ | refine q03 ?_ | refine q06 ?_ | refine q11 ?_ | refine q16 ?_ | refine q17 ?_) | (with_reducible refine At.fn_ret (by simp -dsimp [hlt, hs]; exact rfl) ?_) | (with_reducible refine DT_regionE [0,1,2,3,4,5,6,7,8,13,24,45,57] ?_; simp -dsimp [hlt, hs]) | (refine DT_cond rfl (fun h => ?_) (fun h => ?_) <;> (try simp only [nrm] at h) <;> (try exact Bool.noConfusion h))
  all_goals try simp -dsimp [hlt, hs]
  all_goals try clear hs
  all_goals try omega
theorem rSpots_c (c : Chains) (hsm : SmallC c) (objs : List DObj) : DCall Tryz.prog G 25 [chv c] objs (fun rr objs' => rr = .tup [spotsv (spotsR c), iv (chainsE c)] ∧ objs' = objs) := by
 refine DCall.frame ?_ (by simp) (by simp) objs
 refine DCall_intro Tryz.func25 rfl Tryz.ntmps25 (by simp) rfl ?_
 try simp only [chv]
 have c1 := rChCheck_c (G := G) c hsm
 simp only [spotsv]
 by_cases h00 : chainsE c = 0
 ·have c2 := rAll_c (G := G) c (okC h00) hsm
  rw [h00] at c1
  rw [spotsR, if_pos h00, h00]
  simp only [spotsv] at c2
  have hs : True := trivial
  repeat' first | (with_reducible first | refine q01 ?_ | refine q11 ?_ | refine q14 ?_ | refine q17 ?_) | (with_reducible refine At.fn_ret (by simp -dsimp [hs]; exact rfl) ?_) | (refine CallE.pure (c1) ?_; try simp -dsimp [hs]) | (refine CallE.pure (c2) ?_; try simp -dsimp [hs]) | (with_reducible refine DT_regionE [0,1,2,3,4,8] ?_; simp -dsimp [hs]) | (refine DT_cond rfl (fun h => ?_) (fun h => ?_) <;> (try simp only [nrm] at h) <;> (try exact Bool.noConfusion h))
  all_goals try simp -dsimp [hs]
  all_goals try clear hs
 ·rw [spotsR, if_neg h00]
  have hs : True := trivial
  repeat' first | (with_reducible first | refine q01 ?_ | refine q02 ?_ | refine q11 ?_ | refine q17 ?_) | (with_reducible refine At.fn_ret (by simp -dsimp [h00, hs]; exact rfl) ?_) | (refine CallE.pure (c1) ?_; try simp -dsimp [h00, hs]) | (with_reducible refine DT_regionE [0,1,2,3,4,8] ?_; simp -dsimp [h00, hs]) | (refine DT_cond rfl (fun h => ?_) (fun h => ?_) <;> (try simp only [nrm] at h) <;> (try exact Bool.noConfusion h))
  all_goals try simp -dsimp [h00, hs]
  all_goals try clear hs
theorem sameSpots_c (l : List Spot) (hl : l.length < 1000000) (objs : List DObj) : DCall Tryz.prog G 26 [spotsv l, spotsv l] objs (fun rr objs' => rr = bv true ∧ objs' = objs) := by
 refine DCall.frame ?_ (by simp) (by simp) objs
 refine DCall_intro Tryz.func26 rfl Tryz.ntmps26 (by simp) rfl ?_
 try simp only [iv]
 simp only [spotsv]
 have hs : True := trivial
 repeat' first | (with_reducible first | refine q01 ?_ | refine q11 ?_ | refine q12 ?_ | refine q14 ?_) | (with_reducible refine DT_regionE [0,1,4,5,10,14,25] ?_; simp -dsimp [hs]) | (refine DT_cond rfl (fun h => ?_) (fun h => ?_) <;> (try simp only [nrm] at h) <;> (try exact Bool.noConfusion h))
 all_goals try simp -dsimp [hs]
 all_goals try clear hs
 refine DT_loop (ι := { i : Nat // i ≤ l.length }) (fun p => ⟨26, [(0, .one (.im (.sl (l.map encSpot)))), (1, .one (.im (.sl (l.map encSpot)))), (5, iv (p.1 : Int))], []⟩) (fun p => l.length - p.1) ⟨0, by simp⟩ (Weak.of_keep [0,1,5] (by simp)) ?_
 rintro ⟨i, hi⟩
 simp only [iv]
 by_cases hlt : i < l.length
 ·have hx : l[i]? = some l[i] := by simp [hlt]
  have hw : IntKind.i64.wrap ((i : Int) + 1) = ((i + 1 : Nat) : Int) := i64w (by omega) (by omega)
  have hs : True := trivial
  repeat' first | (with_reducible first | refine q01 ?_ | refine q04 ?_ | refine q11 ?_ | refine q12 ?_ | refine q14 ?_) | (refine DT_regionM (id := 6) (nt := 26) 9 [0,1,4,5,10,14,25] mixed rfl (by kernel_rfl) ?_; simp -dsimp [hx, hw, hlt, hs]) | (with_reducible refine DT_regionE [0,1,4,5,10,14,25] ?_; simp -dsimp [hx, hw, hlt, hs]) | (refine DT_cond rfl (fun h => ?_) (fun h => ?_) <;> (try simp only [nrm] at h) <;> (try exact Bool.noConfusion h))
  all_goals try simp -dsimp [hx, hw, hlt, hs]
  all_goals try clear hs
  exact At.round ⟨i + 1, by omega⟩ (by simp; omega) (Weak.of_drop [0,1,5] 0 (by simp) (by simp) (by simp))
 ·have hs : True := trivial
  repeat' first | (with_reducible first | refine q01 ?_ | refine q03 ?_ | refine q06 ?_ | refine q11 ?_ | refine q16 ?_ | refine q17 ?_) | (with_reducible refine At.fn_ret (by simp -dsimp [hlt, hs]; exact rfl) ?_) | (with_reducible refine DT_regionE [0,1,4,5,10,14,25] ?_; simp -dsimp [hlt, hs]) | (refine DT_cond rfl (fun h => ?_) (fun h => ?_) <;> (try simp only [nrm] at h) <;> (try exact Bool.noConfusion h))
  all_goals try simp -dsimp [hlt, hs]
  all_goals try clear hs
end Go.Proofs
