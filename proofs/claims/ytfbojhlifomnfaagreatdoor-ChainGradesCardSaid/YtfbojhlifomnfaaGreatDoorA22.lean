/- Part 22 of the proofs: laws and walks that hold without conditions beyond those that each theorem names. -/
import Derived.Test.YtfbojhlifomnfaaGreatDoorA21
set_option linter.all false
set_option linter.deprecated false
namespace Go.Proofs
open Go Go.Ab
set_option linter.unusedSimpArgs false
variable {G : Nat → Option (List IC)}
def zDim : Dim := ⟨0, 0, 0⟩
def dimAt (c : Chains) (x : Link) : Dim := ((takeI c.reg c.lets x.drawing).dims[x.dim.toNat]?).getD zDim
structure OkC (c : Chains) : Prop where
 reg : checkR c.reg = 0
 lets : lettersI c.reg c.lets = true
 of : c.of ∈ nums c.reg
 num : 1 ≤ c.loops.length ∧ c.loops.length ≤ 6
 gap : ∀ x ∈ c.loops, x.links.length ≤ 8 ∧ ckL2 x = true
 link : ∀ x ∈ c.loops, ∀ y ∈ x.links, y.drawing ∈ nums c.reg ∧ 0 ≤ y.dim ∧ y.dim < (takeI c.reg c.lets y.drawing).dims.length
def sizesI (c : Chains) (x : ChLoop) : List Dim := x.links.map (dimAt c)
def endN (high : Bool) (x : Link) (d : Dim) : Int := if high != x.back then d.upper else d.lower
def sgn (x : Link) (n : Int) : Int := if x.back then -n else n
def endsL (links : List Link) (l : List Dim) (high : Bool) : List Int := (links.zip l).map fun p => endN high p.1 p.2
def endS (links : List Link) (l : List Dim) (high : Bool) : Int := (links.zip l).foldl (fun s p => s + sgn p.1 (endN high p.1 p.2)) 0
theorem dimAt_ok {c : Chains} (h : OkC c) {x : ChLoop} (hx : x ∈ c.loops) {y : Link} (hy : y ∈ x.links) : dimOk (dimAt c y) = true ∧ (takeI c.reg c.lets y.drawing).dims[y.dim.toNat]? = some (dimAt c y) := by
 obtain ⟨h1, h2, h3⟩ := h.link x hx y hy
 obtain ⟨hm, _⟩ := take_spec h.reg h.lets h1
 have hok := (scan_all (listed_scan (check_listed h.reg))).2.2.2.1 _ hm
 have hlt : y.dim.toNat < (takeI c.reg c.lets y.drawing).dims.length := by omega
 have he : (takeI c.reg c.lets y.drawing).dims[y.dim.toNat]? = some (takeI c.reg c.lets y.drawing).dims[y.dim.toNat] := by simp [hlt]
 have hd : dimAt c y = (takeI c.reg c.lets y.drawing).dims[y.dim.toNat] := by rw [dimAt, he, Option.getD_some]
 simp only [issueOk, Bool.and_eq_true] at hok
 rw [hd]
 exact ⟨List.all_eq_true.1 hok.2 _ (List.getElem_mem hlt), he⟩
theorem within6_c (n lo hi : Int) (objs : List DObj) : DCall Tryz.prog G 96 [iv n, iv lo, iv hi] objs (fun rr objs' => rr = bv (decide (lo ≤ n) && decide (n ≤ hi)) ∧ objs' = objs) := by
 refine DCall.frame ?_ (by simp) (by simp) objs
 refine DCall_intro Tryz.func96 rfl Tryz.ntmps96 (by simp) rfl ?_
 try simp only [iv, iv, iv]
 have hs : True := trivial
 repeat' first | (with_reducible first | refine q01 ?_ | refine q11 ?_ | refine q17 ?_) | (with_reducible refine At.fn_ret (by simp -dsimp [hs]; exact rfl) ?_) | (with_reducible refine DT_regionE [0,1,2,6] ?_; simp -dsimp [hs]) | (with_reducible refine GStop_split ?_ ?_ <;> intro h <;> have h0 := h <;> (try simp only [nrm] at h) <;> (try exact Bool.noConfusion h) <;> have h2 := h <;> (try simp at h2) <;> (replace hs := And.intro h0 (And.intro h (And.intro h2 hs))) <;> simp -dsimp [h0, h, h2, hs])
 all_goals try simp -dsimp [hs]
 all_goals try clear hs
 all_goals simp [*]
def countI (l : List Itm) (d : Int) : Int := match l with
 | [] => 0
 | y :: r => if y.drawing = d then y.count else countI r d
theorem count_c (l : List Itm) (d : Int) (hl : l.length < 1000000) (objs : List DObj) : DCall Tryz.prog G 161 [.one (.im (.sl (l.map encItem))), iv d] objs (fun rr objs' => rr = iv (countI l d) ∧ objs' = objs) := by
 refine DCall.frame ?_ (by simp) (by simp) objs
 refine DCall_intro Tryz.func161 rfl Tryz.ntmps161 (by simp) rfl ?_
 try simp only [iv]
 have hs : True := trivial
 repeat' first | (with_reducible first | refine q01 ?_ | refine q11 ?_ | refine q12 ?_) | (with_reducible refine DT_regionE [0,1,4,5,9,18] ?_; simp -dsimp [hs])
 all_goals try simp -dsimp [hs]
 all_goals try clear hs
 refine DT_loop (ι := { k : Nat // k ≤ l.length ∧ countI l d = countI (l.drop k) d }) (fun p => ⟨24, [(0, .one (.im (.sl (l.map encItem)))), (1, iv d), (5, iv (p.1 : Int))], []⟩) (fun p => l.length - p.1) ⟨0, by simp⟩ (Weak.of_keep [0,1,5] (by simp)) ?_
 rintro ⟨k, hk, ha⟩
 simp only [iv]
 by_cases hlt : k < l.length
 ·have hx : l[k]? = some l[k] := by simp [hlt]
  have hw : IntKind.i64.wrap ((k : Int) + 1) = ((k + 1 : Nat) : Int) := i64w (by omega) (by omega)
  rw [List.drop_eq_getElem_cons hlt, countI] at ha
  have hs : True := trivial
  repeat' first | (with_reducible first | refine q01 ?_ | refine q02 ?_ | refine q04 ?_ | refine q05 ?_ | refine q11 ?_ | refine q12 ?_ | refine q14 ?_ | refine q17 ?_) | (with_reducible refine At.fn_ret (by simp -dsimp [hx, hw, hlt, hs]; exact rfl) ?_) | (with_reducible refine DT_regionE [0,1,4,5,9,18] ?_; simp -dsimp [hx, hw, hlt, hs]) | (refine DT_cond rfl (fun h => ?_) (fun h => ?_) <;> (try simp only [nrm] at h) <;> (try exact Bool.noConfusion h))
  all_goals try simp -dsimp [hx, hw, hlt, hs]
  all_goals try clear hs
  ·rw [ha, if_pos ‹_›]
  ·exact At.round ⟨k + 1, by omega, by rw [ha, if_neg ‹_›]⟩ (by simp; omega) (Weak.of_keep [0,1,5] (by simp))
 ·rw [List.drop_eq_nil_of_le (by omega)] at ha
  have hs : True := trivial
  repeat' first | (with_reducible first | refine q01 ?_ | refine q03 ?_ | refine q06 ?_ | refine q11 ?_ | refine q16 ?_ | refine q17 ?_) | (with_reducible refine At.fn_ret (by simp -dsimp [hlt, hs]; exact rfl) ?_) | (with_reducible refine DT_regionE [0,1,4,5,9,18] ?_; simp -dsimp [hlt, hs]) | (refine DT_cond rfl (fun h => ?_) (fun h => ?_) <;> (try simp only [nrm] at h) <;> (try exact Bool.noConfusion h))
  all_goals try simp -dsimp [hlt, hs]
  all_goals try clear hs
  rw [ha]; rfl
theorem spotOf_c (x : Link) (objs : List DObj) : DCall Tryz.prog G 47 [linkv x] objs (fun rr objs' => rr = refv x.drawing x.dim ∧ objs' = objs) := by
 refine DCall.frame ?_ (by simp) (by simp) objs
 refine DCall_intro Tryz.func47 rfl Tryz.ntmps47 (by simp) rfl ?_
 try simp only [linkv]
 have hs : True := trivial
 repeat' first | (with_reducible first | refine q01 ?_ | refine q11 ?_ | refine q17 ?_) | (with_reducible refine At.fn_ret (by simp -dsimp [hs]; exact rfl) ?_) | (with_reducible refine DT_regionE [0,1,2] ?_; simp -dsimp [hs])
 all_goals try simp -dsimp [hs]
 all_goals try clear hs
theorem in6_c (d k : Int) (objs : List DObj) : DCall Tryz.prog G 94 [.one (.im (.sl [])), refv d k] objs (fun rr objs' => rr = bv false ∧ objs' = objs) := by
 refine DCall.frame ?_ (by simp) (by simp) objs
 refine DCall_intro Tryz.func94 rfl Tryz.ntmps94 (by simp) rfl ?_
 try simp only [refv]
 have hs : True := trivial
 repeat' first | (with_reducible first | refine q01 ?_ | refine q11 ?_ | refine q12 ?_) | (with_reducible refine DT_regionE [0,1,3,4,5,9,17] ?_; simp -dsimp [hs])
 all_goals try simp -dsimp [hs]
 all_goals try clear hs
 refine DT_loop (ι := Unit) (fun _ => ⟨18, [(0, .one (.im (.sl []))), (5, iv 0)], []⟩) (fun _ => 0) () (Weak.of_drop [0,5] 0 (by simp) (by simp) (by simp)) ?_
 intro _
 simp only [iv]
 have hs : True := trivial
 repeat' first | (with_reducible first | refine q01 ?_ | refine q03 ?_ | refine q06 ?_ | refine q11 ?_ | refine q16 ?_ | refine q17 ?_) | (with_reducible refine At.fn_ret (by simp -dsimp [hs]; exact rfl) ?_) | (with_reducible refine DT_regionE [0,1,3,4,5,9,17] ?_; simp -dsimp [hs]) | (refine DT_cond rfl (fun h => ?_) (fun h => ?_) <;> (try simp only [nrm] at h) <;> (try exact Bool.noConfusion h))
 all_goals try simp -dsimp [hs]
 all_goals try clear hs
theorem sizeOf_c (c : Chains) (y : Link) (d : Dim) (hl : c.reg.length < 1000000) (hd : y.drawing ∈ nums c.reg) (hll : c.lets.length = (nums c.reg).length) (h0 : 0 ≤ y.dim) (he : (takeI c.reg c.lets y.drawing).dims[y.dim.toNat]? = some d) (objs : List DObj) : DCall Tryz.prog G 44 [chv c, linkv y] objs (fun rr objs' => rr = dimv d ∧ objs' = objs) := by
 refine DCall.frame ?_ (by simp) (by simp) objs
 refine DCall_intro Tryz.func44 rfl Tryz.ntmps44 (by simp) rfl ?_
 try simp only [chv, linkv]
 have c1 := taken_c (G := G) c.reg c.lets y.drawing hl hd hll
 obtain ⟨k, hk⟩ : ∃ k : Nat, y.dim = k := ⟨y.dim.toNat, by omega⟩
 rw [hk, Int.toNat_natCast] at he
 have hlt := lt_of_getElem? he
 generalize takeI c.reg c.lets y.drawing = x at *
 have hs : True := trivial
 repeat' first | (with_reducible first | refine q01 ?_ | refine q11 ?_ | refine q17 ?_) | (with_reducible refine At.fn_ret (by simp -dsimp [hk, he, hlt, hs]; exact rfl) ?_) | (refine QCall_pure (c1) ?_; try simp -dsimp [hk, he, hlt, hs]) | (refine DT_regionM (id := 1) (nt := 17) 12 [0,1,2,3,4] mixed rfl (by kernel_rfl) ?_; simp -dsimp [hk, he, hlt, hs]) | (with_reducible refine DT_regionE [0,1,2,3,4] ?_; simp -dsimp [hk, he, hlt, hs])
 all_goals try simp -dsimp [hk, he, hlt, hs]
 all_goals try clear hs
 obtain ⟨_, e⟩ := List.getElem?_eq_some_iff.1 he
 rw [e]; simp
set_option maxHeartbeats 1000000 in
theorem rsizes_c (c : Chains) (n : Nat) (hn : n < c.loops.length) (hs : SmallC c) (h : OkC c) (objs : List DObj) : DCall Tryz.prog G 71 [chv c, iv (n : Int), .one (.im (.sl [])), iv 0] objs (fun rr objs' => rr = .one (.im (.sl ((sizesI c c.loops[n]).map encDim))) ∧ objs' = objs) := by
 refine DCall.frame ?_ (by simp) (by simp) objs
 refine DCall_intro Tryz.func71 rfl Tryz.ntmps71 (by simp) rfl ?_
 try simp only [chv, iv, iv]
 have hx : c.loops[n]? = some c.loops[n] := by simp [hn]
 have hln := h.gap c.loops[n] (List.getElem_mem hn)
 have hll : c.lets.length = (nums c.reg).length := by
  have := h.lets
  simp only [lettersI, Bool.and_eq_true, decide_eq_true_eq] at this; exact this.1
 have hreg := hs.1.1
 have hok := fun y hy => dimAt_ok h (List.getElem_mem hn) (y := y) hy
 have hlk := h.link c.loops[n] (List.getElem_mem hn)
 have hE : sizesI c c.loops[n] = c.loops[n].links.map (dimAt c) := rfl
 have hs : True := trivial
 repeat' first | (with_reducible first | refine q01 ?_ | refine q11 ?_ | refine q12 ?_) | (with_reducible refine DT_regionE [0,1,2,3,4,8,9,10,11,12,22,37] ?_; simp -dsimp [hx, hn, hs])
 all_goals try simp -dsimp [hx, hn, hs]
 all_goals try clear hs
 generalize hls : c.loops[n].links = ls at *
 refine DT_loop (ι := { p : Nat × Nat × Bool × List Dim // p.1 ≤ ls.length ∧ p.2.2.2 = (ls.take p.1).map (dimAt c) }) (fun p => ⟨46, [(2, .one (.im (.sl []))), (4, .one (.ptr 0 0)), (9, .one (.vec 2 p.1.2.1 0 p.1.2.2.2.length)), (10, .one (.im (.sl (ls.map encLink)))), (11, iv (p.1.1 : Int))], [.row ((encChains c).map .im), .vec 3 [] 0 true, .vec 3 (ims (p.1.2.2.2.map encDim)) p.1.2.1 p.1.2.2.1]⟩) (fun p => ls.length - p.1.1) ⟨(0, 0, true, []), by simp⟩ (Weak.of_keep [2,4,9,10,11] (by simp)) ?_
 rintro ⟨⟨k, g, nl, out⟩, hk, ho⟩
 simp only at hk ho
 simp only [iv]
 have hol : out.length = k := by rw [ho]; simp; omega
 by_cases hlt : k < ls.length
 ·have hy : ls[k]? = some ls[k] := by simp [hlt]
  have hw : IntKind.i64.wrap ((k : Int) + 1) = ((k + 1 : Nat) : Int) := i64w (by omega) (by omega)
  obtain ⟨l1, l2, l3⟩ := hlk ls[k] (List.getElem_mem hlt)
  obtain ⟨_, he⟩ := hok ls[k] (List.getElem_mem hlt)
  have c1 := sizeOf_c (G := G) c ls[k] (dimAt c ls[k]) (by omega) l1 hll l2 he
  have c2 := spotOf_c (G := G) ls[k]
  have c3 := in6_c (G := G) ls[k].drawing ls[k].dim
  simp only [refv] at c2 c3
  have hon : out ++ [dimAt c ls[k]] = (ls.take (k + 1)).map (dimAt c) := by rw [List.take_succ_eq_append_getElem hlt, List.map_append, ho]; rfl
  have hs : True := trivial
  repeat' first | (with_reducible first | refine q01 ?_ | refine q04 ?_ | refine q11 ?_ | refine q12 ?_ | refine q14 ?_ | refine And.intro (by omega) ?_) | (refine QCall_pure (c1) ?_; try simp -dsimp [hy, hw, hlt, hs]) | (refine CallE.pure (c2) ?_; try simp -dsimp [hy, hw, hlt, hs]) | (refine CallE.pure (c3) ?_; try simp -dsimp [hy, hw, hlt, hs]) | (refine DT_regionX (id := 6) (nt := 46) 7 [] [0,1,2,3,4,8,9,10,11,12,22,25,26,27,28,29,30,37] [0,1,2,3,4,8,9,10,11,12,22,37] mixed rfl (by kernel_rfl) ?_; simp -dsimp [hy, hw, hlt, hs]) | (with_reducible refine DT_regionE [0,1,2,3,4,8,9,10,11,12,22,37] ?_; simp -dsimp [hy, hw, hlt, hs]) | (refine DT_cond rfl (fun h => ?_) (fun h => ?_) <;> (try simp only [nrm] at h) <;> (try exact Bool.noConfusion h))
  all_goals try simp -dsimp [hy, hw, hlt, hs]
  all_goals try clear hs
  all_goals try omega
  exact At.round ⟨(k + 1, g + 1, false, out ++ [dimAt c ls[k]]), by omega, hon⟩ (by simp; omega) (Weak.of_drop [2,4,9,10,11] 3 (by simp) (by simp) (by simp))
 ·have hs : True := trivial
  repeat' first | (with_reducible first | refine q01 ?_ | refine q03 ?_ | refine q06 ?_ | refine q11 ?_ | refine q16 ?_ | refine q17 ?_) | (with_reducible refine At.fn_ret (by simp -dsimp [hlt, hs]; exact rfl) ?_) | (with_reducible refine DT_regionE [0,1,2,3,4,8,9,10,11,12,22,37] ?_; simp -dsimp [hlt, hs]) | (refine DT_cond rfl (fun h => ?_) (fun h => ?_) <;> (try simp only [nrm] at h) <;> (try exact Bool.noConfusion h))
  all_goals try simp -dsimp [hlt, hs]
  all_goals try clear hs
  all_goals try omega
  rw [hE, ho, List.take_of_length_le (by omega)]
theorem endN_bd {high : Bool} {x : Link} {d : Dim} (h : dimOk d = true) : 0 ≤ endN high x d ∧ endN high x d ≤ 1000000000 := by
 have := (dimOk_iff d).1 h
 unfold endN; split <;> omega
theorem sgn_bd {high : Bool} {x : Link} {d : Dim} (h : dimOk d = true) : -1000000000 ≤ sgn x (endN high x d) ∧ sgn x (endN high x d) ≤ 1000000000 := by
 have := endN_bd (high := high) (x := x) h
 unfold sgn; split <;> omega
set_option maxHeartbeats 1000000 in
theorem ends_c (ls : List Link) (l : List Dim) (high : Bool) (hl : ls.length ≤ 12) (he : l.length = ls.length) (hd : ∀ d ∈ l, dimOk d = true) (objs : List DObj) : DCall Tryz.prog G 70 [.one (.im (.sl (ls.map encLink))), .one (.im (.sl (l.map encDim))), bv high] objs (fun rr objs' => rr = .tup [isv (endsL ls l high), iv (endS ls l high)] ∧ objs' = objs) := by
 refine DCall.frame ?_ (by simp) (by simp) objs
 refine DCall_intro Tryz.func70 rfl Tryz.ntmps70 (by simp) rfl ?_
 try simp only [bv]
 have hs : True := trivial
 repeat' first | (with_reducible first | refine q01 ?_ | refine q11 ?_ | refine q12 ?_) | (with_reducible refine DT_regionE [0,1,2,6,7,8,9,10,11,15,29,43] ?_; simp -dsimp [hs])
 all_goals try simp -dsimp [hs]
 all_goals try clear hs
 refine DT_loop (ι := { p : Nat × Nat × Bool × List Int × Int // p.1 ≤ ls.length ∧ p.2.2.2.1.length = p.1 ∧ endsL ls l high = p.2.2.2.1 ++ ((ls.zip l).drop p.1).map (fun q => endN high q.1 q.2) ∧ endS ls l high = ((ls.zip l).drop p.1).foldl (fun s q => s + sgn q.1 (endN high q.1 q.2)) p.2.2.2.2 ∧ -1000000000 * (p.1 : Int) ≤ p.2.2.2.2 ∧ p.2.2.2.2 ≤ 1000000000 * (p.1 : Int) }) (fun p => ⟨51, [(0, .one (.im (.sl (ls.map encLink)))), (1, .one (.im (.sl (l.map encDim)))), (2, bv high), (8, .one (.vec 1 p.1.2.1 0 p.1.2.2.2.1.length)), (9, iv p.1.2.2.2.2), (10, iv (p.1.1 : Int))], [.vec 1 [] 0 true, .vec 1 (ims (p.1.2.2.2.1.map encI)) p.1.2.1 p.1.2.2.1]⟩) (fun p => ls.length - p.1.1) ⟨(0, 0, true, [], 0), by simp [endsL, endS]⟩ (Weak.of_keep [0,1,2,8,9,10] (by simp)) ?_
 rintro ⟨⟨k, g, nl, out, s⟩, hk, hol, ho, hs, hb1, hb2⟩
 simp only at hk hol ho hs hb1 hb2
 simp only [iv, bv]
 by_cases hlt : k < ls.length
 ·have hkl : k < l.length := by omega
  have hx : ls[k]? = some ls[k] := by simp [hlt]
  have hy : l[k]? = some l[k] := by simp [hkl]
  have hw : IntKind.i64.wrap ((k : Int) + 1) = ((k + 1 : Nat) : Int) := i64w (by omega) (by omega)
  have hz : k < (ls.zip l).length := by simp; omega
  rw [List.drop_eq_getElem_cons hz, List.getElem_zip, List.map_cons] at ho
  rw [List.drop_eq_getElem_cons hz, List.getElem_zip, List.foldl_cons] at hs
  have hdk := hd l[k] (List.getElem_mem hkl)
  have hdl := (dimOk_iff _).1 hdk
  have hsb := sgn_bd (high := high) (x := ls[k]) hdk
  have hws : IntKind.i64.wrap (s + sgn ls[k] (endN high ls[k] l[k])) = s + sgn ls[k] (endN high ls[k] l[k]) := i64w (by omega) (by omega)
  have hon : endsL ls l high = (out ++ [endN high ls[k] l[k]]) ++ ((ls.zip l).drop (k + 1)).map (fun q => endN high q.1 q.2) := by rw [ho]; simp
  have hwl : IntKind.i64.wrap (-l[k].lower) = -l[k].lower := i64w (by omega) (by omega)
  have hwu : IntKind.i64.wrap (-l[k].upper) = -l[k].upper := i64w (by omega) (by omega)
  have hfin : k + 1 ≤ ls.length ∧ (out ++ [endN high ls[k] l[k]]).length = k + 1 ∧ endsL ls l high = (out ++ [endN high ls[k] l[k]]) ++ ((ls.zip l).drop (k + 1)).map (fun q => endN high q.1 q.2) ∧ endS ls l high = ((ls.zip l).drop (k + 1)).foldl (fun s q => s + sgn q.1 (endN high q.1 q.2)) (s + sgn ls[k] (endN high ls[k] l[k])) ∧ -1000000000 * ((k + 1 : Nat) : Int) ≤ s + sgn ls[k] (endN high ls[k] l[k]) ∧ s + sgn ls[k] (endN high ls[k] l[k]) ≤ 1000000000 * ((k + 1 : Nat) : Int) := ⟨by omega, by simp; omega, hon, hs, by omega, by omega⟩
  cases hbk : ls[k].back <;> cases high
  all_goals have hN : ∀ h, endN h ls[k] l[k] = if h != ls[k].back then l[k].upper else l[k].lower := fun _ => rfl
  all_goals have hS : ∀ n, sgn ls[k] n = if ls[k].back then -n else n := fun _ => rfl
  all_goals simp only [hN, hS, hbk, bne_self_eq_false, Bool.false_eq_true, if_false, if_true, Bool.true_bne, Bool.false_bne, Bool.not_false] at hws hfin
  all_goals clear hN hS ho hs hon hsb
  ·have hs : True := trivial
   repeat' first | (with_reducible first | refine q01 ?_ | refine q04 ?_ | refine q11 ?_ | refine q12 ?_ | refine q14 ?_ | refine And.intro (by omega) ?_) | (with_reducible refine DT_regionE [0,1,2,6,7,8,9,10,11,15,29,43] ?_; simp -dsimp [hx, hy, hw, hlt, hkl, hbk, hws, hs]) | (refine DT_cond rfl (fun h => ?_) (fun h => ?_) <;> (try simp only [nrm] at h) <;> (try exact Bool.noConfusion h))
   all_goals try simp -dsimp [hx, hy, hw, hlt, hkl, hbk, hws, hs]
   all_goals try clear hs
   all_goals try omega
   exact At.round ⟨(k + 1, g + 1, false, out ++ [l[k].lower], s + l[k].lower), hfin⟩ (by simp; omega) (Weak.of_drop [0,1,2,8,9,10] 2 (by simp) (by simp) (by simp))
  ·have hs : True := trivial
   repeat' first | (with_reducible first | refine q01 ?_ | refine q04 ?_ | refine q11 ?_ | refine q12 ?_ | refine q14 ?_ | refine And.intro (by omega) ?_) | (with_reducible refine DT_regionE [0,1,2,6,7,8,9,10,11,15,29,43] ?_; simp -dsimp [hx, hy, hw, hlt, hkl, hbk, hws, hs]) | (refine DT_cond rfl (fun h => ?_) (fun h => ?_) <;> (try simp only [nrm] at h) <;> (try exact Bool.noConfusion h))
   all_goals try simp -dsimp [hx, hy, hw, hlt, hkl, hbk, hws, hs]
   all_goals try clear hs
   all_goals try omega
   exact At.round ⟨(k + 1, g + 1, false, out ++ [l[k].upper], s + l[k].upper), hfin⟩ (by simp; omega) (Weak.of_drop [0,1,2,8,9,10] 2 (by simp) (by simp) (by simp))
  ·have hs : True := trivial
   repeat' first | (with_reducible first | refine q01 ?_ | refine q04 ?_ | refine q11 ?_ | refine q12 ?_ | refine q14 ?_ | refine And.intro (by omega) ?_) | (with_reducible refine DT_regionE [0,1,2,6,7,8,9,10,11,15,29,43] ?_; simp -dsimp [hx, hy, hw, hlt, hkl, hbk, hws, hwl, hwu, hs]) | (refine DT_cond rfl (fun h => ?_) (fun h => ?_) <;> (try simp only [nrm] at h) <;> (try exact Bool.noConfusion h))
   all_goals try simp -dsimp [hx, hy, hw, hlt, hkl, hbk, hws, hwl, hwu, hs]
   all_goals try clear hs
   all_goals try omega
   exact At.round ⟨(k + 1, g + 1, false, out ++ [l[k].upper], s + -l[k].upper), hfin⟩ (by simp; omega) (Weak.of_drop [0,1,2,8,9,10] 2 (by simp) (by simp) (by simp))
  ·have hs : True := trivial
   repeat' first | (with_reducible first | refine q01 ?_ | refine q04 ?_ | refine q11 ?_ | refine q12 ?_ | refine q14 ?_ | refine And.intro (by omega) ?_) | (with_reducible refine DT_regionE [0,1,2,6,7,8,9,10,11,15,29,43] ?_; simp -dsimp [hx, hy, hw, hlt, hkl, hbk, hws, hwl, hwu, hs]) | (refine DT_cond rfl (fun h => ?_) (fun h => ?_) <;> (try simp only [nrm] at h) <;> (try exact Bool.noConfusion h))
   all_goals try simp -dsimp [hx, hy, hw, hlt, hkl, hbk, hws, hwl, hwu, hs]
   all_goals try clear hs
   all_goals try omega
   exact At.round ⟨(k + 1, g + 1, false, out ++ [l[k].lower], s + -l[k].lower), hfin⟩ (by simp; omega) (Weak.of_drop [0,1,2,8,9,10] 2 (by simp) (by simp) (by simp))
 ·rw [List.drop_eq_nil_of_le (by simp; omega)] at ho hs
  have hs : True := trivial
  repeat' first | (with_reducible first | refine q01 ?_ | refine q03 ?_ | refine q06 ?_ | refine q11 ?_ | refine q16 ?_ | refine q17 ?_) | (with_reducible refine At.fn_ret (by simp -dsimp [hlt, hs]; exact rfl) ?_) | (with_reducible refine DT_regionE [0,1,2,6,7,8,9,10,11,15,29,43] ?_; simp -dsimp [hlt, hs]) | (refine DT_cond rfl (fun h => ?_) (fun h => ?_) <;> (try simp only [nrm] at h) <;> (try exact Bool.noConfusion h))
  all_goals try simp -dsimp [hlt, hs]
  all_goals try clear hs
  all_goals try omega
  rw [ho, hs]; simp
theorem sizes_ok {c : Chains} (h : OkC c) {n : Nat} (hn : n < c.loops.length) : (sizesI c c.loops[n]).length = c.loops[n].links.length ∧ ∀ d ∈ sizesI c c.loops[n], dimOk d = true := by
 refine ⟨by simp [sizesI], fun d hd => ?_⟩
 obtain ⟨y, hy, rfl⟩ := List.mem_map.1 hd
 exact (dimAt_ok h (List.getElem_mem hn) hy).1
end Go.Proofs
namespace Go.Proofs
open Go Go.Ab
set_option linter.unusedSimpArgs false
variable {G : Nat → Option (List IC)}
theorem deskR_one (c : Chains) : ∃ X, deskR c = .one (.im X) := by unfold deskR; split <;> exact ⟨_, rfl⟩
def loopsE (c : Chains) (n : Int) : Int := if chainsE c ≠ 0 then chainsE c else if 0 ≤ n ∧ n < c.loops.length then 0 else 2
theorem loops_c (c : Chains) (n : Int) (hG : sheetG G) (hC : chainG G) (hs : SmallC c) (objs : List DObj) : DCall Tryz.prog G 65 [chv c, iv n] objs (fun rr objs' => rr = .tup [deskR c, iv (loopsE c n)] ∧ objs' = objs) := by
 refine DCall.frame ?_ (by simp) (by simp) objs
 refine DCall_intro Tryz.func65 rfl Tryz.ntmps65 (by simp) rfl ?_
 try simp only [chv, iv]
 have c1 := chOpen_c c hG hC hs
 have hl := hs.2.2.1
 have hw : IntKind.i64.wrap ((c.loops.length : Int) - 1) = (c.loops.length : Int) - 1 := i64w (by omega) (by omega)
 have c2 := in_chain (G := G) 0 ((c.loops.length : Int) - 1) [n] (by simp)
 have hE : loopsE c n = if chainsE c ≠ 0 then chainsE c else if 0 ≤ n ∧ n < c.loops.length then 0 else 2 := rfl
 obtain ⟨X, hX⟩ := deskR_one c
 rw [hX]
 rw [hX] at c1
 by_cases h0 : chainsE c = 0
 ·rw [h0] at c1 hE
  by_cases hr : 0 ≤ n ∧ n < c.loops.length
  ·have hq : ([n].all fun x => decide (0 ≤ x) && decide (x ≤ (c.loops.length : Int) - 1)) = true := by simp; omega
   rw [hq] at c2
   have hs : True := trivial
   repeat' first | (with_reducible first | refine q01 ?_ | refine q11 ?_ | refine q14 ?_ | refine q17 ?_) | (with_reducible refine At.fn_ret (by simp -dsimp [hw, hs]; exact rfl) ?_) | (refine CallE.pure (c1) ?_; try simp -dsimp [hw, hs]) | (refine CallE.thaw (c2) ?_ ?_ ?_; (focus (simp; done)); (focus (simp; done)); try simp -dsimp [hw, hs]) | (with_reducible refine DT_regionE [0,1,2,4,5,6,7,24] ?_; simp -dsimp [hw, hs]) | (refine DT_cond rfl (fun h => ?_) (fun h => ?_) <;> (try simp only [nrm] at h) <;> (try exact Bool.noConfusion h))
   all_goals try simp -dsimp [hw, hs]
   all_goals try clear hs
   simp [hE, hr]
  ·have hq : ([n].all fun x => decide (0 ≤ x) && decide (x ≤ (c.loops.length : Int) - 1)) = false := by simp; omega
   rw [hq] at c2
   have hs : True := trivial
   repeat' first | (with_reducible first | refine q01 ?_ | refine q11 ?_ | refine q17 ?_) | (with_reducible refine At.fn_ret (by simp -dsimp [hw, hs]; exact rfl) ?_) | (refine CallE.pure (c1) ?_; try simp -dsimp [hw, hs]) | (refine CallE.thaw (c2) ?_ ?_ ?_; (focus (simp; done)); (focus (simp; done)); try simp -dsimp [hw, hs]) | (with_reducible refine DT_regionE [0,1,2,4,5,6,7,24] ?_; simp -dsimp [hw, hs]) | (refine DT_cond rfl (fun h => ?_) (fun h => ?_) <;> (try simp only [nrm] at h) <;> (try exact Bool.noConfusion h))
   all_goals try simp -dsimp [hw, hs]
   all_goals try clear hs
   simp [hE, hr]
 ·have hs : True := trivial
  repeat' first | (with_reducible first | refine q01 ?_ | refine q11 ?_ | refine q14 ?_ | refine q17 ?_) | (with_reducible refine At.fn_ret (by simp -dsimp [h0, hs]; exact rfl) ?_) | (refine CallE.pure (c1) ?_; try simp -dsimp [h0, hs]) | (with_reducible refine DT_regionE [0,1,2,4,5,6,7,24] ?_; simp -dsimp [h0, hs]) | (refine DT_cond rfl (fun h => ?_) (fun h => ?_) <;> (try simp only [nrm] at h) <;> (try exact Bool.noConfusion h))
  all_goals try simp -dsimp [h0, hs]
  all_goals try clear hs
  simp [hE, h0]
theorem never_c (d k : Int) (objs : List DObj) : DCall Tryz.prog G 68 [refv d k] objs (fun rr objs' => rr = bv false ∧ objs' = objs) := by
 refine DCall.frame ?_ (by simp) (by simp) objs
 refine DCall_intro Tryz.func68 rfl Tryz.ntmps68 (by simp) rfl ?_
 try simp only [refv]
 have hs : True := trivial
 repeat' first | (with_reducible first | refine q01 ?_ | refine q11 ?_ | refine q17 ?_) | (with_reducible refine At.fn_ret (by simp -dsimp [hs]; exact rfl) ?_) | (with_reducible refine DT_regionE [0,2] ?_; simp -dsimp [hs])
 all_goals try simp -dsimp [hs]
 all_goals try clear hs
theorem spot_c (x : Link) (objs : List DObj) : DCall Tryz.prog G 118 [linkv x] objs (fun rr objs' => rr = refv x.drawing x.dim ∧ objs' = objs) := by
 refine DCall.frame ?_ (by simp) (by simp) objs
 refine DCall_intro Tryz.func118 rfl Tryz.ntmps118 (by simp) rfl ?_
 try simp only [linkv]
 have hs : True := trivial
 repeat' first | (with_reducible first | refine q01 ?_ | refine q11 ?_ | refine q17 ?_) | (with_reducible refine At.fn_ret (by simp -dsimp [hs]; exact rfl) ?_) | (with_reducible refine DT_regionE [0,1,2] ?_; simp -dsimp [hs])
 all_goals try simp -dsimp [hs]
 all_goals try clear hs
def neverF : IC := .fn (.func 68) []
set_option maxHeartbeats 1000000 in
theorem psizes_c (c : Chains) (D : List (Int × Int)) (n : Nat) (hn : n < c.loops.length) (h : OkC c) (objs : List DObj) : DCall Tryz.prog G 67 [.one (.im (deskC c D (tkM c.reg c.lets))), iv (n : Int), iv 0, .one (.im neverF)] objs (fun rr objs' => rr = .one (.im (.sl ((sizesI c c.loops[n]).map encDim))) ∧ objs' = objs) := by
 refine DCall.frame ?_ (by simp) (by simp) objs
 refine DCall_intro Tryz.func67 rfl Tryz.ntmps67 (by simp) rfl ?_
 try simp only [iv, iv]
 have hx : c.loops[n]? = some c.loops[n] := by simp [hn]
 have hln := h.gap c.loops[n] (List.getElem_mem hn)
 have hok := fun y hy => dimAt_ok h (List.getElem_mem hn) (y := y) hy
 have hlk := h.link c.loops[n] (List.getElem_mem hn)
 have hE : sizesI c c.loops[n] = c.loops[n].links.map (dimAt c) := rfl
 simp only [deskC, neverF]
 have hs : True := trivial
 repeat' first | (with_reducible first | refine q01 ?_ | refine q11 ?_ | refine q12 ?_) | (with_reducible refine DT_regionE [0,1,2,3,8,9,11,12,21,22,23,24,42] ?_; simp -dsimp [hx, hn, hs])
 all_goals try simp -dsimp [hx, hn, hs]
 all_goals try clear hs
 generalize hls : c.loops[n].links = ls at *
 refine DT_loop (ι := { p : Nat × Nat × Bool × List Dim // p.1 ≤ ls.length ∧ p.2.2.2 = (ls.take p.1).map (dimAt c) }) (fun p => ⟨52, [(0, .one (.im (deskC c D (tkM c.reg c.lets)))), (2, iv 0), (3, .one (.im neverF)), (9, .one (.vec 1 p.1.2.1 0 p.1.2.2.2.length)), (21, .one (.im (.sl (ls.map encLink)))), (22, iv (ls.length : Int)), (23, iv (p.1.1 : Int))], [.vec 3 [] 0 true, .vec 3 (ims (p.1.2.2.2.map encDim)) p.1.2.1 p.1.2.2.1]⟩) (fun p => ls.length - p.1.1) ⟨(0, 0, true, []), by simp⟩ (Weak.of_keep [0,2,3,9,21,22,23] (by simp [deskC, neverF])) ?_
 rintro ⟨⟨k, g, nl, out⟩, hk, ho⟩
 simp only at hk ho
 simp only [iv, deskC, neverF]
 have hol : out.length = k := by rw [ho]; simp; omega
 by_cases hlt : k < ls.length
 ·have hy : ls[k]? = some ls[k] := by simp [hlt]
  have hw : IntKind.i64.wrap ((k : Int) + 1) = ((k + 1 : Nat) : Int) := i64w (by omega) (by omega)
  obtain ⟨l1, l2, l3⟩ := hlk ls[k] (List.getElem_mem hlt)
  obtain ⟨_, he⟩ := hok ls[k] (List.getElem_mem hlt)
  have hlook : mlookS (tkM c.reg c.lets) ls[k].drawing = takeI c.reg c.lets ls[k].drawing := by rw [tkM, mlookS_map, if_pos l1]
  obtain ⟨j, hj⟩ : ∃ j : Nat, ls[k].dim = j := ⟨ls[k].dim.toNat, by omega⟩
  rw [hj, Int.toNat_natCast] at he
  have hjl := lt_of_getElem? he
  have hje := (List.getElem?_eq_some_iff.1 he).2
  have c2 := spot_c (G := G) ⟨ls[k].drawing, j, ls[k].back⟩
  have c3 := never_c (G := G) ls[k].drawing j
  simp only [refv] at c2 c3
  have hon : out ++ [dimAt c ls[k]] = (ls.take (k + 1)).map (dimAt c) := by rw [List.take_succ_eq_append_getElem hlt, List.map_append, ho]; rfl
  have hs : True := trivial
  repeat' first | (with_reducible first | refine q01 ?_ | refine q04 ?_ | refine q11 ?_ | refine q12 ?_ | refine q14 ?_ | refine And.intro (by omega) ?_) | (refine CallE.pure (c2) ?_; try simp -dsimp [hy, hw, hlt, hlook, hj, hjl, he, hje, hs]) | (refine CallE.pure (c3) ?_; try simp -dsimp [hy, hw, hlt, hlook, hj, hjl, he, hje, hs]) | (refine DT_regionX (id := 5) (nt := 52) 13 [] [0,1,2,3,8,9,11,12,21,22,23,24,27,28,29,30,31,32,33,34,35,36,37,38,42] [0,1,2,3,8,9,11,12,21,22,23,24,42] mixed rfl (by kernel_rfl) ?_; simp -dsimp [hy, hw, hlt, hlook, hj, hjl, he, hje, hs]) | (with_reducible refine DT_regionE [0,1,2,3,8,9,11,12,21,22,23,24,42] ?_; simp -dsimp [hy, hw, hlt, hlook, hj, hjl, he, hje, hs]) | (refine DT_cond rfl (fun h => ?_) (fun h => ?_) <;> (try simp only [nrm] at h) <;> (try exact Bool.noConfusion h))
  all_goals try simp -dsimp [hy, hw, hlt, hlook, hj, hjl, he, hje, hs]
  all_goals try clear hs
  all_goals try omega
  exact At.round ⟨(k + 1, g + 1, false, out ++ [dimAt c ls[k]]), by omega, hon⟩ (by simp; omega) (Weak.of_drop [0,2,3,9,21,22,23] 2 (by simp) (by simp) (by simp [deskC, neverF]))
 ·have hs : True := trivial
  repeat' first | (with_reducible first | refine q01 ?_ | refine q03 ?_ | refine q06 ?_ | refine q11 ?_ | refine q16 ?_ | refine q17 ?_) | (with_reducible refine At.fn_ret (by simp -dsimp [hlt, hs]; exact rfl) ?_) | (with_reducible refine DT_regionE [0,1,2,3,8,9,11,12,21,22,23,24,42] ?_; simp -dsimp [hlt, hs]) | (refine DT_cond rfl (fun h => ?_) (fun h => ?_) <;> (try simp only [nrm] at h) <;> (try exact Bool.noConfusion h))
  all_goals try simp -dsimp [hlt, hs]
  all_goals try clear hs
  all_goals try omega
  rw [hE, ho, List.take_of_length_le (by omega)]
set_option maxHeartbeats 1000000 in
theorem pend_c (c : Chains) (D : List (Int × Int)) (B : List (Int × Issue)) (n : Nat) (hn : n < c.loops.length) (l : List Dim) (high : Bool) (hl : c.loops[n].links.length ≤ 12) (he : l.length = c.loops[n].links.length) (hd : ∀ d ∈ l, dimOk d = true) (objs : List DObj) : DCall Tryz.prog G 66 [.one (.im (deskC c D B)), iv (n : Int), .one (.im (.sl (l.map encDim))), bv high] objs (fun rr objs' => rr = .tup [isv (endsL c.loops[n].links l high), iv (endS c.loops[n].links l high)] ∧ objs' = objs) := by
 refine DCall.frame ?_ (by simp) (by simp) objs
 refine DCall_intro Tryz.func66 rfl Tryz.ntmps66 (by simp) rfl ?_
 try simp only [iv, bv]
 have hxn : c.loops[n]? = some c.loops[n] := by simp [hn]
 simp only [deskC]
 have hs : True := trivial
 repeat' first | (with_reducible first | refine q01 ?_ | refine q11 ?_ | refine q12 ?_) | (with_reducible refine DT_regionE [0,1,2,3,8,9,10,11,12,13,14,15,24,25,26,27,37,41] ?_; simp -dsimp [hxn, hn, hs])
 all_goals try simp -dsimp [hxn, hn, hs]
 all_goals try clear hs
 generalize c.loops[n].links = ls at *
 refine DT_loop (ι := { p : Nat × Nat × Bool × List Int × Int // p.1 ≤ ls.length ∧ p.2.2.2.1.length = p.1 ∧ endsL ls l high = p.2.2.2.1 ++ ((ls.zip l).drop p.1).map (fun q => endN high q.1 q.2) ∧ endS ls l high = ((ls.zip l).drop p.1).foldl (fun s q => s + sgn q.1 (endN high q.1 q.2)) p.2.2.2.2 ∧ -1000000000 * (p.1 : Int) ≤ p.2.2.2.2 ∧ p.2.2.2.2 ≤ 1000000000 * (p.1 : Int) }) (fun p => ⟨59, [(2, .one (.im (.sl (l.map encDim)))), (3, bv high), (10, iv p.1.2.2.2.2), (11, .one (.vec 1 p.1.2.1 0 p.1.2.2.2.1.length)), (24, .one (.im (.sl (ls.map encLink)))), (25, iv (ls.length : Int)), (26, iv (p.1.1 : Int))], [.vec 1 [] 0 true, .vec 1 (ims (p.1.2.2.2.1.map encI)) p.1.2.1 p.1.2.2.1]⟩) (fun p => ls.length - p.1.1) ⟨(0, 0, true, [], 0), by simp [endsL, endS]⟩ (Weak.of_keep [2,3,10,11,24,25,26] (by simp)) ?_
 rintro ⟨⟨k, g, nl, out, s⟩, hk, hol, ho, hs, hb1, hb2⟩
 simp only at hk hol ho hs hb1 hb2
 simp only [iv, bv]
 by_cases hlt : k < ls.length
 ·have hkl : k < l.length := by omega
  have hx : ls[k]? = some ls[k] := by simp [hlt]
  have hy : l[k]? = some l[k] := by simp [hkl]
  have hw : IntKind.i64.wrap ((k : Int) + 1) = ((k + 1 : Nat) : Int) := i64w (by omega) (by omega)
  have hz : k < (ls.zip l).length := by simp; omega
  rw [List.drop_eq_getElem_cons hz, List.getElem_zip, List.map_cons] at ho
  rw [List.drop_eq_getElem_cons hz, List.getElem_zip, List.foldl_cons] at hs
  have hdk := hd l[k] (List.getElem_mem hkl)
  have hdl := (dimOk_iff _).1 hdk
  have hsb := sgn_bd (high := high) (x := ls[k]) hdk
  have hws : IntKind.i64.wrap (s + sgn ls[k] (endN high ls[k] l[k])) = s + sgn ls[k] (endN high ls[k] l[k]) := i64w (by omega) (by omega)
  have hon : endsL ls l high = (out ++ [endN high ls[k] l[k]]) ++ ((ls.zip l).drop (k + 1)).map (fun q => endN high q.1 q.2) := by rw [ho]; simp
  have hwl : IntKind.i64.wrap (-l[k].lower) = -l[k].lower := i64w (by omega) (by omega)
  have hwu : IntKind.i64.wrap (-l[k].upper) = -l[k].upper := i64w (by omega) (by omega)
  have hwl1 : IntKind.i64.wrap l[k].lower = l[k].lower := i64w (by omega) (by omega)
  have hwu1 : IntKind.i64.wrap l[k].upper = l[k].upper := i64w (by omega) (by omega)
  have hfin : k + 1 ≤ ls.length ∧ (out ++ [endN high ls[k] l[k]]).length = k + 1 ∧ endsL ls l high = (out ++ [endN high ls[k] l[k]]) ++ ((ls.zip l).drop (k + 1)).map (fun q => endN high q.1 q.2) ∧ endS ls l high = ((ls.zip l).drop (k + 1)).foldl (fun s q => s + sgn q.1 (endN high q.1 q.2)) (s + sgn ls[k] (endN high ls[k] l[k])) ∧ -1000000000 * ((k + 1 : Nat) : Int) ≤ s + sgn ls[k] (endN high ls[k] l[k]) ∧ s + sgn ls[k] (endN high ls[k] l[k]) ≤ 1000000000 * ((k + 1 : Nat) : Int) := ⟨by omega, by simp; omega, hon, hs, by omega, by omega⟩
  cases hbk : ls[k].back <;> cases high
  all_goals have hN : ∀ h, endN h ls[k] l[k] = if h != ls[k].back then l[k].upper else l[k].lower := fun _ => rfl
  all_goals have hS : ∀ n, sgn ls[k] n = if ls[k].back then -n else n := fun _ => rfl
  all_goals simp only [hN, hS, hbk, bne_self_eq_false, Bool.false_eq_true, if_false, if_true, Bool.true_bne, Bool.false_bne, Bool.not_false] at hws hfin
  all_goals clear hN hS
  ·have hs : True := trivial
   repeat' first | (with_reducible first | refine q01 ?_ | refine q04 ?_ | refine q11 ?_ | refine q12 ?_ | refine q14 ?_ | refine And.intro (by omega) ?_) | (with_reducible refine DT_regionE [0,1,2,3,8,9,10,11,12,13,14,15,24,25,26,27,37,41] ?_; simp -dsimp [hx, hy, hw, hlt, hkl, hbk, hws, hwl1, hwu1, hs]) | (refine DT_cond rfl (fun h => ?_) (fun h => ?_) <;> (try simp only [nrm] at h) <;> (try exact Bool.noConfusion h))
   all_goals try simp -dsimp [hx, hy, hw, hlt, hkl, hbk, hws, hwl1, hwu1, hs]
   all_goals try clear hs
   all_goals try omega
   exact At.round ⟨(k + 1, g + 1, false, out ++ [l[k].lower], s + l[k].lower), hfin⟩ (by simp; omega) (Weak.of_drop [2,3,10,11,24,25,26] 2 (by simp) (by simp) (by simp))
  ·have hs : True := trivial
   repeat' first | (with_reducible first | refine q01 ?_ | refine q04 ?_ | refine q11 ?_ | refine q12 ?_ | refine q14 ?_ | refine And.intro (by omega) ?_) | (with_reducible refine DT_regionE [0,1,2,3,8,9,10,11,12,13,14,15,24,25,26,27,37,41] ?_; simp -dsimp [hx, hy, hw, hlt, hkl, hbk, hws, hwl1, hwu1, hs]) | (refine DT_cond rfl (fun h => ?_) (fun h => ?_) <;> (try simp only [nrm] at h) <;> (try exact Bool.noConfusion h))
   all_goals try simp -dsimp [hx, hy, hw, hlt, hkl, hbk, hws, hwl1, hwu1, hs]
   all_goals try clear hs
   all_goals try omega
   exact At.round ⟨(k + 1, g + 1, false, out ++ [l[k].upper], s + l[k].upper), hfin⟩ (by simp; omega) (Weak.of_drop [2,3,10,11,24,25,26] 2 (by simp) (by simp) (by simp))
  ·have hs : True := trivial
   repeat' first | (with_reducible first | refine q01 ?_ | refine q04 ?_ | refine q11 ?_ | refine q12 ?_ | refine q14 ?_ | refine And.intro (by omega) ?_) | (with_reducible refine DT_regionE [0,1,2,3,8,9,10,11,12,13,14,15,24,25,26,27,37,41] ?_; simp -dsimp [hx, hy, hw, hlt, hkl, hbk, hws, hwl, hwu, hs]) | (refine DT_cond rfl (fun h => ?_) (fun h => ?_) <;> (try simp only [nrm] at h) <;> (try exact Bool.noConfusion h))
   all_goals try simp -dsimp [hx, hy, hw, hlt, hkl, hbk, hws, hwl, hwu, hs]
   all_goals try clear hs
   all_goals try omega
   exact At.round ⟨(k + 1, g + 1, false, out ++ [l[k].upper], s + -l[k].upper), hfin⟩ (by simp; omega) (Weak.of_drop [2,3,10,11,24,25,26] 2 (by simp) (by simp) (by simp))
  ·have hs : True := trivial
   repeat' first | (with_reducible first | refine q01 ?_ | refine q04 ?_ | refine q11 ?_ | refine q12 ?_ | refine q14 ?_ | refine And.intro (by omega) ?_) | (with_reducible refine DT_regionE [0,1,2,3,8,9,10,11,12,13,14,15,24,25,26,27,37,41] ?_; simp -dsimp [hx, hy, hw, hlt, hkl, hbk, hws, hwl, hwu, hs]) | (refine DT_cond rfl (fun h => ?_) (fun h => ?_) <;> (try simp only [nrm] at h) <;> (try exact Bool.noConfusion h))
   all_goals try simp -dsimp [hx, hy, hw, hlt, hkl, hbk, hws, hwl, hwu, hs]
   all_goals try clear hs
   all_goals try omega
   exact At.round ⟨(k + 1, g + 1, false, out ++ [l[k].lower], s + -l[k].lower), hfin⟩ (by simp; omega) (Weak.of_drop [2,3,10,11,24,25,26] 2 (by simp) (by simp) (by simp))
 ·rw [List.drop_eq_nil_of_le (by simp; omega)] at ho hs
  have hs : True := trivial
  repeat' first | (with_reducible first | refine q01 ?_ | refine q03 ?_ | refine q06 ?_ | refine q11 ?_ | refine q16 ?_ | refine q17 ?_) | (with_reducible refine At.fn_ret (by simp -dsimp [hlt, hs]; exact rfl) ?_) | (with_reducible refine DT_regionE [0,1,2,3,8,9,10,11,12,13,14,15,24,25,26,27,37,41] ?_; simp -dsimp [hlt, hs]) | (refine DT_cond rfl (fun h => ?_) (fun h => ?_) <;> (try simp only [nrm] at h) <;> (try exact Bool.noConfusion h))
  all_goals try simp -dsimp [hlt, hs]
  all_goals try clear hs
  all_goals try omega
  rw [ho, hs]; simp
theorem preach_c (c : Chains) (D : List (Int × Int)) (B : List (Int × Issue)) (n : Nat) (hn : n < c.loops.length) (l : List Dim) (hl : c.loops[n].links.length ≤ 12) (he : l.length = c.loops[n].links.length) (hd : ∀ d ∈ l, dimOk d = true) (objs : List DObj) : DCall Tryz.prog G 106 [.one (.im (deskC c D B)), iv (n : Int), .one (.im (.sl (l.map encDim)))] objs (fun rr objs' => rr = refv (endS c.loops[n].links l false) (endS c.loops[n].links l true) ∧ objs' = objs) := by
 refine DCall.frame ?_ (by simp) (by simp) objs
 refine DCall_intro Tryz.func106 rfl Tryz.ntmps106 (by simp) rfl ?_
 try simp only [iv]
 have c2 := pend_c (G := G) c D B n hn l false hl he hd
 have c3 := pend_c (G := G) c D B n hn l true hl he hd
 have hs : True := trivial
 repeat' first | (with_reducible first | refine q01 ?_ | refine q11 ?_ | refine q17 ?_) | (with_reducible refine At.fn_ret (by simp -dsimp [hs]; exact rfl) ?_) | (refine CallE.pure (c2) ?_; try simp -dsimp [hs]) | (refine CallE.pure (c3) ?_; try simp -dsimp [hs]) | (with_reducible refine DT_regionE [0,1,2,6,8,10] ?_; simp -dsimp [hs])
 all_goals try simp -dsimp [hs]
 all_goals try clear hs
def loI (c : Chains) (n : Int) : Int := match c.loops[n.toNat]? with | some x => endS x.links (sizesI c x) false | none => 0
def hiI (c : Chains) (n : Int) : Int := match c.loops[n.toNat]? with | some x => endS x.links (sizesI c x) true | none => 0
def rLo (c : Chains) (n : Int) : Int := if loopsE c n = 0 then loI c n else 0
def rHi (c : Chains) (n : Int) : Int := if loopsE c n = 0 then hiI c n else 0
theorem pReach_c (c : Chains) (n : Int) (hG : sheetG G) (hC : chainG G) (hs : SmallC c) (hok : chainsE c = 0 → OkC c) (objs : List DObj) : DCall Tryz.prog G 40 [chv c, iv n] objs (fun rr objs' => rr = .tup [refv (rLo c n) (rHi c n), iv (loopsE c n)] ∧ objs' = objs) := by
 refine DCall.frame ?_ (by simp) (by simp) objs
 refine DCall_intro Tryz.func40 rfl Tryz.ntmps40 (by simp) rfl ?_
 try simp only [chv, iv]
 have c1 := loops_c c n hG hC hs
 by_cases hE : loopsE c n = 0
 ·have h0 : chainsE c = 0 := by
   by_cases h : chainsE c = 0
   ·exact h
   ·simp [loopsE, h] at hE
  have hr : 0 ≤ n ∧ n < c.loops.length := Classical.byContradiction fun h => by simp [loopsE, h0, h] at hE
  obtain ⟨k, rfl⟩ : ∃ k : Nat, n = k := ⟨n.toNat, by omega⟩
  have hk : k < c.loops.length := by omega
  have h := hok h0
  have hx : c.loops[k]? = some c.loops[k] := by simp [hk]
  have c2 := psizes_c (G := G) c (cntD c) k hk h
  obtain ⟨hsl, hsd⟩ := sizes_ok h hk
  have hln := (h.gap c.loops[k] (List.getElem_mem hk)).1
  have c3 := preach_c (G := G) c (cntD c) (tkM c.reg c.lets) k hk (sizesI c c.loops[k]) (by omega) hsl hsd
  have h1 : loI c (k : Int) = endS c.loops[k].links (sizesI c c.loops[k]) false := by simp only [loI, Int.toNat_natCast, hx]
  have h2 : hiI c (k : Int) = endS c.loops[k].links (sizesI c c.loops[k]) true := by simp only [hiI, Int.toNat_natCast, hx]
  rw [← h1, ← h2] at c3
  rw [hE] at c1
  simp only [deskR, h0, if_true, deskC] at c1
  rw [rLo, rHi, if_pos hE, if_pos hE]
  simp only [deskC, neverF, refv] at c2 c3
  have hs : True := trivial
  repeat' first | (with_reducible first | refine q01 ?_ | refine q11 ?_ | refine q14 ?_ | refine q17 ?_) | (with_reducible refine At.fn_ret (by simp -dsimp [hs]; exact rfl) ?_) | (refine CallE.pure (c1) ?_; try simp -dsimp [hs]) | (refine CallE.pure (c2) ?_; try simp -dsimp [hs]) | (refine CallE.pure (c3) ?_; try simp -dsimp [hs]) | (with_reducible refine DT_regionE [0,1,2,4,5,6,7,15] ?_; simp -dsimp [hs]) | (refine DT_cond rfl (fun h => ?_) (fun h => ?_) <;> (try simp only [nrm] at h) <;> (try exact Bool.noConfusion h))
  all_goals try simp -dsimp [hs]
  all_goals try clear hs
  all_goals simp [hE]
 ·obtain ⟨X, hX⟩ := deskR_one c
  rw [hX] at c1
  rw [rLo, rHi, if_neg hE, if_neg hE]
  have hs : True := trivial
  repeat' first | (with_reducible first | refine q01 ?_ | refine q02 ?_ | refine q11 ?_ | refine q17 ?_) | (with_reducible refine At.fn_ret (by simp -dsimp [hE, hs]; exact rfl) ?_) | (refine CallE.pure (c1) ?_; try simp -dsimp [hE, hs]) | (with_reducible refine DT_regionE [0,1,2,4,5,6,7,15] ?_; simp -dsimp [hE, hs]) | (refine DT_cond rfl (fun h => ?_) (fun h => ?_) <;> (try simp only [nrm] at h) <;> (try exact Bool.noConfusion h))
  all_goals try simp -dsimp [hE, hs]
  all_goals try clear hs
theorem endS_fold (h1 : Bool) : ∀ (q : List (Link × Dim)) (a b : Int), (∀ p ∈ q, dimOk p.2 = true) → a ≤ b → q.foldl (fun s p => s + sgn p.1 (endN false p.1 p.2)) a ≤ q.foldl (fun s p => s + sgn p.1 (endN true p.1 p.2)) b
 | [], a, b, _, h => h
 | p :: q, a, b, hd, h => by
   rw [List.foldl_cons, List.foldl_cons]
   refine endS_fold h1 q _ _ (fun p hp => hd p (by simp [hp])) ?_
   have hp := (dimOk_iff _).1 (hd p (by simp))
   have : sgn p.1 (endN false p.1 p.2) ≤ sgn p.1 (endN true p.1 p.2) := by
    unfold sgn endN
    cases p.1.back <;> simp <;> omega
   omega
theorem lo_hi {ls : List Link} {l : List Dim} (hd : ∀ d ∈ l, dimOk d = true) : endS ls l false ≤ endS ls l true :=
 endS_fold true _ 0 0 (fun _ hp => hd _ (List.of_mem_zip hp).2) (Int.le_refl _)
def u8v (n : Int) : DV := .one (.im (.raw (.int .u8 n)))
attribute [simp] u8v
theorem loopsE_zero {c : Chains} {n : Int} (h : loopsE c n = 0) : chainsE c = 0 ∧ ∃ k : Nat, n = k ∧ k < c.loops.length := by
 have h0 : chainsE c = 0 := by
  by_cases h' : chainsE c = 0
  ·exact h'
  ·simp [loopsE, h'] at h
 have hr : 0 ≤ n ∧ n < c.loops.length := Classical.byContradiction fun h' => by simp [loopsE, h0, h'] at h
 exact ⟨h0, n.toNat, by omega, by omega⟩
end Go.Proofs
namespace Go.Proofs
open Go Go.Ab
theorem leaves_mem {l : List Issue} {lets : List Int} (h0 : checkR l = 0) (hlet : lettersI l lets = true) {dep : Int → Int} (hdep : ∀ n ∈ nums l, 1 ≤ dep n ∧ dep n ≤ 6 ∧ ∀ c ∈ chI l n, c ∈ nums l ∧ dep c < dep n) :
 ∀ (k : Nat) (d m : Int), d ∈ nums l → ∀ p ∈ leavesF (takeI l lets) k d m, p.1 ∈ nums l
 | 0, _, _, _, p, hp => by cases hp
 | k + 1, d, m, hd, p, hp => by
   rw [leavesF] at hp
   split at hp
   ·rw [List.mem_singleton] at hp; rw [hp]; exact hd
   ·obtain ⟨y, hy, hp⟩ := List.mem_flatMap.1 hp
    have hc := (hdep d hd).2.2 _ (take_items h0 hlet hd y hy)
    exact leaves_mem h0 hlet hdep k _ _ hc.1 p hp
theorem addL_addM {ns : List Int} (hnd : ns.Nodup) : ∀ (lv : List (Int × Int)) (m : List (Int × Int)), (∀ p ∈ lv, p.1 ∈ ns) → addL ns (ns.map (mlook m)) lv = ns.map (mlook (addM m lv))
 | [], _, _ => rfl
 | p :: lv, m, h => by
   have h1 := addL_addM hnd lv (mput p.1 (IntKind.i64.wrap (mlook m p.1 + p.2)) m) fun q hq => h q (by simp [hq])
   obtain ⟨j, hj⟩ := List.mem_iff_getElem?.1 (h p (by simp))
   have he : addC ns (ns.map (mlook m)) p = ns.map (mlook (mput p.1 (IntKind.i64.wrap (mlook m p.1 + p.2)) m)) := by
    simp only [addC, idx_at hnd hj, Int.toNat_natCast, List.getElem?_map, hj, Option.map_some, Option.getD_some]
    rw [map_set_at hnd hj]
    refine List.map_congr_left fun n _ => ?_
    rw [mlook_put]
    by_cases e : n = p.1 <;> simp [e]
   simp only [addL, addM, List.foldl_cons] at h1 ⊢
   rw [he]; exact h1
theorem zip_filter (f : Int → Int) : ∀ ns : List Int, ((ns.zip (ns.map f)).filter fun p => decide (0 < p.2)).map (fun p => (⟨p.1, p.2⟩ : Itm)) = (ns.filter fun n => decide (0 < f n)).map fun n => ⟨n, f n⟩
 | [] => rfl
 | n :: ns => by
   simp only [List.map_cons, List.zip_cons_cons, List.filter_cons]
   by_cases h : 0 < f n
   ·simp only [h, decide_true, if_true, List.map_cons, zip_filter f ns]
   ·simp only [h, decide_false, Bool.false_eq_true, if_false, zip_filter f ns]
theorem parts_eq {l : List Issue} {lets : List Int} {d : Int} (h0 : checkR l = 0) (hlet : lettersI l lets = true) (hd : d ∈ nums l) : partsI l lets d = partsP (nums l) (cntM l lets d) := by
 obtain ⟨dep, hdep⟩ := dep_spec h0
 have hnd : (nums l).Nodup := (check_nums h0).1.imp fun h => Int.ne_of_lt h
 have h1 := addL_addM hnd (leavesF (takeI l lets) 6 d 1) [] (leaves_mem h0 hlet hdep 6 d 1 hd)
 have h2 : (nums l).map (mlook []) = List.replicate (nums l).length 0 := map_rep (fun _ => rfl) _
 rw [h2] at h1
 have h3 : cntI l lets d = (nums l).map (mlook (cntM l lets d)) := h1
 rw [partsI, h3, zip_filter]; rfl
theorem look_count : ∀ (ps : List Itm) (m : List (Int × Int)) (d : Int), (ps.map (·.drawing)).Nodup → mlook (ps.foldl (fun m x => mput x.drawing x.count m) m) d = if d ∈ ps.map (·.drawing) then countI ps d else mlook m d
 | [], m, d, _ => by simp
 | y :: ps, m, d, h => by
   rw [List.map_cons, List.nodup_cons] at h
   rw [List.foldl_cons, look_count ps _ d h.2, mlook_put, countI]
   by_cases e : d = y.drawing
   ·subst e
    rw [if_neg h.1, if_pos rfl, if_pos (by simp), if_pos rfl]
   ·rw [if_neg e, if_neg (Ne.symm e)]
    by_cases hm : d ∈ ps.map (·.drawing)
    ·rw [if_pos hm, if_pos (by simp only [List.map_cons, List.mem_cons]; exact .inr hm)]
    ·rw [if_neg hm, if_neg (by simp only [List.map_cons, List.mem_cons]; exact fun h => h.elim e hm)]
theorem countI_none : ∀ (ps : List Itm) (d : Int), d ∉ ps.map (·.drawing) → countI ps d = 0
 | [], _, _ => rfl
 | y :: ps, d, h => by
   rw [List.map_cons, List.mem_cons, not_or] at h
   rw [countI, if_neg (Ne.symm h.1)]; exact countI_none ps d h.2
def cntL (ls : List Link) (d : Int) : Nat := (ls.filter fun y => decide (y.drawing = d)).length
theorem cntL_cons (y : Link) (r : List Link) (d : Int) : cntL (y :: r) d = (if y.drawing = d then 1 else 0) + cntL r d := by
 unfold cntL
 by_cases h : y.drawing = d
 ·rw [List.filter_cons_of_pos (by simpa using h), if_pos h, List.length_cons]; omega
 ·rw [List.filter_cons_of_neg (by simpa using h), if_neg h]; omega
theorem cntL_pos {ls : List Link} {y : Link} (h : y ∈ ls) : 1 ≤ cntL ls y.drawing :=
 List.length_pos_of_mem (List.mem_filter.2 ⟨h, by simp⟩)
theorem cntL_zero {ls : List Link} {d : Int} (h : ∀ y ∈ ls, y.drawing ≠ d) : cntL ls d = 0 := by
 unfold cntL
 rw [List.filter_eq_nil_iff.2 fun y hy => by simpa using h y hy]; rfl
def dimck (B : List (Int × Issue)) (y : Link) : Bool := decide (0 ≤ y.dim) && decide (y.dim ≤ ((mlookS B y.drawing).dims.length : Int) - 1)
theorem usedOk_iff (D : List (Int × Int)) (B : List (Int × Issue)) : ∀ (r : List Link) (U : List (Int × Int)), usedOk D B U r = true ↔ ∀ y ∈ r, dimck B y = true ∧ mlook U y.drawing + cntL r y.drawing ≤ mlook D y.drawing
 | [], U => by simp [usedOk]
 | y :: r, U => by
   have ih := usedOk_iff D B r (mput y.drawing (mlook U y.drawing + 1) U)
   have hu : usedOk D B U (y :: r) = (decide (mlook U y.drawing + 1 ≤ mlook D y.drawing) && dimck B y && usedOk D B (mput y.drawing (mlook U y.drawing + 1) U) r) := rfl
   rw [hu, Bool.and_eq_true, Bool.and_eq_true, decide_eq_true_eq, ih]
   constructor
   ·rintro ⟨⟨h1, h2⟩, h3⟩ z hz
    have key : ∀ z ∈ r, dimck B z = true ∧ mlook U z.drawing + cntL (y :: r) z.drawing ≤ mlook D z.drawing := fun z hz => by
     obtain ⟨a, b⟩ := h3 z hz
     rw [mlook_put] at b
     rw [cntL_cons]
     refine ⟨a, ?_⟩
     by_cases e : z.drawing = y.drawing
     ·rw [if_pos e] at b; rw [if_pos e.symm]; rw [e] at b ⊢; omega
     ·rw [if_neg e] at b; rw [if_neg (Ne.symm e)]; omega
    rcases List.mem_cons.1 hz with rfl | hz
    ·refine ⟨h2, ?_⟩
     by_cases hex : ∃ w ∈ r, w.drawing = z.drawing
     ·obtain ⟨w, hw, e⟩ := hex
      have := (key w hw).2
      rw [e] at this; exact this
     ·rw [cntL_cons, if_pos rfl, cntL_zero fun w hw e => hex ⟨w, hw, e⟩]; omega
    ·exact key z hz
   ·intro h
    obtain ⟨a, b⟩ := h y (by simp)
    rw [cntL_cons, if_pos rfl] at b
    refine ⟨⟨by omega, a⟩, fun z hz => ?_⟩
    obtain ⟨a', b'⟩ := h z (by simp [hz])
    refine ⟨a', ?_⟩
    rw [cntL_cons] at b'
    rw [mlook_put]
    by_cases e : z.drawing = y.drawing
    ·rw [if_pos e.symm, e] at b'; rw [if_pos e, e]; omega
    ·rw [if_neg (Ne.symm e)] at b'; rw [if_neg e]; omega
def linkOkR (c : Chains) (ls : List Link) (y : Link) : Bool := decide ((cntL ls y.drawing : Int) ≤ countI (partsI c.reg c.lets c.of) y.drawing) && (decide (0 ≤ y.dim) && decide (y.dim ≤ ((takeI c.reg c.lets y.drawing).dims.length : Int) - 1))
def loopOkR (c : Chains) (x : ChLoop) : Bool := ckL1 x && ckL2 x && x.links.all (linkOkR c x.links)
theorem part_mem {c : Chains} {d : Int} (h0 : checkR c.reg = 0) (hlet : lettersI c.reg c.lets = true) (hof : c.of ∈ nums c.reg) (hc : 1 ≤ countI (partsI c.reg c.lets c.of) d) : d ∈ nums c.reg := by
 refine Classical.byContradiction fun hn => ?_
 rw [parts_eq h0 hlet hof, countI_none] at hc
 ·omega
 ·intro hm
  simp only [partsP, List.map_map] at hm
  obtain ⟨n, h1, h2⟩ := List.mem_map.1 hm
  simp only [Function.comp] at h2
  exact hn (h2 ▸ (List.mem_filter.1 h1).1)
theorem loopOk_eq {c : Chains} (h0 : checkR c.reg = 0) (hlet : lettersI c.reg c.lets = true) (hof : c.of ∈ nums c.reg) (x : ChLoop) : loopOkP (cntD c) (tkM c.reg c.lets) x = loopOkR c x := by
 have hnd : (nums c.reg).Nodup := (check_nums h0).1.imp fun h => Int.ne_of_lt h
 have hT : takenE c.reg c.lets c.of = 0 := by simp [takenE, h0, hlet, hof]
 have hD : ∀ d, mlook (cntD c) d = countI (partsI c.reg c.lets c.of) d := fun d => by
  rw [parts_eq h0 hlet hof]
  have hE : explR c.reg c.lets c.of = partsP (nums c.reg) (cntM c.reg c.lets c.of) := by rw [explR, if_pos hT]
  have hn : ((partsP (nums c.reg) (cntM c.reg c.lets c.of)).map (·.drawing)).Nodup := by
   simp only [partsP, List.map_map]
   have : (fun x : Itm => x.drawing) ∘ (fun n => (⟨n, mlook (cntM c.reg c.lets c.of) n⟩ : Itm)) = id := rfl
   rw [this, List.map_id]
   exact hnd.filter _
  rw [cntD, hE, look_count _ _ _ hn]
  split
  ·rfl
  ·rw [countI_none _ _ ‹_›]; rfl
 unfold loopOkP loopOkR
 congr 1
 rw [Bool.eq_iff_iff, usedOk_iff, List.all_eq_true]
 refine forall_congr' fun y => forall_congr' fun hy => ?_
 simp only [linkOkR, dimck, Bool.and_eq_true, decide_eq_true_eq, hD]
 have hp := cntL_pos hy
 have hz : mlook [] y.drawing = 0 := rfl
 constructor
 ·rintro ⟨h1, h2⟩
  have hm := part_mem (d := y.drawing) h0 hlet hof (by omega)
  rw [tkM, mlookS_map, if_pos hm] at h1
  exact ⟨by omega, h1⟩
 ·rintro ⟨h1, h2⟩
  have hm := part_mem (d := y.drawing) h0 hlet hof (by omega)
  rw [tkM, mlookS_map, if_pos hm]
  exact ⟨h2, by omega⟩
theorem chainsE_zero {c : Chains} (h0 : checkR c.reg = 0) : chainsE c = (if lettersI c.reg c.lets = true ∧ c.of ∈ nums c.reg ∧ (1 ≤ c.loops.length ∧ c.loops.length ≤ 6) ∧ c.loops.all (loopOkR c) = true then 0 else 60) := by
 unfold chainsE
 rw [if_neg (by simp [h0])]
 by_cases hlet : lettersI c.reg c.lets = true
 ·by_cases hof : c.of ∈ nums c.reg
  ·have hT : takenE c.reg c.lets c.of = 0 := by simp [takenE, h0, hlet, hof]
   have hL : c.loops.all (loopOkP (cntD c) (tkM c.reg c.lets)) = c.loops.all (loopOkR c) := by
    congr 1; exact funext fun x => loopOk_eq h0 hlet hof x
   rw [hL]
   by_cases hn : 1 ≤ c.loops.length ∧ c.loops.length ≤ 6
   ·rw [if_neg (by simp [hT]; omega)]
    by_cases ha : c.loops.all (loopOkR c) = true
    ·rw [if_pos ha, if_pos ⟨hlet, hof, hn, ha⟩]
    ·rw [if_neg ha, if_neg fun h => ha h.2.2.2]
   ·rw [if_pos (.inr hn), if_neg fun h => hn h.2.2.1]
  ·have hT : takenE c.reg c.lets c.of ≠ 0 := by simp [takenE, h0, hlet, hof]
   rw [if_pos (.inl hT), if_neg fun h => hof h.2.1]
 ·have hT : takenE c.reg c.lets c.of ≠ 0 := by
   have : lettersI c.reg c.lets = false := by simpa using hlet
   simp [takenE, h0, this]
  rw [if_pos (.inl hT), if_neg fun h => hlet h.1]
theorem okC {c : Chains} (h : chainsE c = 0) : OkC c := by
 have h0 : checkR c.reg = 0 := Classical.byContradiction fun h' => by simp [chainsE, h'] at h
 rw [chainsE_zero h0] at h
 split at h
 ·rename_i hc
  obtain ⟨a, b, d, e⟩ := hc
  rw [List.all_eq_true] at e
  refine ⟨h0, a, b, d, fun x hx => ?_, fun x hx y hy => ?_⟩
  ·have := e x hx
   simp only [loopOkR, ckL1, Bool.and_eq_true, decide_eq_true_eq] at this
   exact ⟨this.1.1.2, this.1.2⟩
  ·have := e x hx
   simp only [loopOkR, Bool.and_eq_true, List.all_eq_true] at this
   have := this.2 y hy
   simp only [linkOkR, Bool.and_eq_true, decide_eq_true_eq] at this
   have hp := cntL_pos hy
   exact ⟨part_mem h0 a b (by omega), this.2.1, by omega⟩
 ·cases h
end Go.Proofs
