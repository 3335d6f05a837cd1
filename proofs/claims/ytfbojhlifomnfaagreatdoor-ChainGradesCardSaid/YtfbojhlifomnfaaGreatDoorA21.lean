/- Part 21 of the proofs: laws and walks that hold without conditions beyond those that each theorem names. -/
import Derived.Test.YtfbojhlifomnfaaGreatDoorA18
import Derived.Test.YtfbojhlifomnfaaGreatDoorA20
set_option linter.all false
set_option linter.deprecated false
namespace Go.Ab
open Go
structure Link where
 drawing : Int
 dim : Int
 back : Bool
 deriving DecidableEq
structure ChLoop where
 links : List Link
 lo : Int
 hi : Int
 deriving DecidableEq
structure Chains where
 reg : List Issue
 lets : List Int
 of : Int
 loops : List ChLoop
 deriving DecidableEq
def encLink (x : Link) : List IC := [rI x.drawing, rI x.dim, rB x.back]
def encLoop (x : ChLoop) : List IC := [.sl (x.links.map encLink), rI x.lo, rI x.hi]
def encChains (c : Chains) : List IC := [.sl (c.reg.map encIssue), .sl (c.lets.map encI), rI c.of, .sl (c.loops.map encLoop)]
def linkv (x : Link) : DV := .agg ((encLink x).map .im)
def loopv (x : ChLoop) : DV := .agg ((encLoop x).map .im)
def chv (c : Chains) : DV := .agg ((encChains c).map .im)
attribute [simp] encLink encLoop encChains linkv loopv chv
end Go.Ab
namespace Go.Proofs
open Go Go.Ab
set_option linter.unusedSimpArgs false
variable {G : Nat → Option (List IC)}
theorem in1_chain (x lo hi : Int) : DCall Tryz.prog G 132 (iv x :: [DC.ptr 0 0, DC.ptr 1 0].map .one) [.row [.im (rI lo)], .row [.im (rI hi)]] (fun d o => d = bv (decide (x < lo) || decide (hi < x)) ∧ o = [.row [.im (rI lo)], .row [.im (rI hi)]]) := by
 refine DCall_intro Tryz.func132 rfl Tryz.ntmps132 (by simp) rfl ?_
 simp only [rI]
 have hs : True := trivial
 repeat' first | (with_reducible first | refine q01 ?_ | refine q11 ?_ | refine q17 ?_) | (with_reducible refine At.fn_ret (by simp -dsimp [hs]; exact rfl) ?_) | (with_reducible refine DT_regionE [0,1,2,4] ?_; simp -dsimp [hs]) | (with_reducible refine GStop_split ?_ ?_ <;> intro h <;> have h0 := h <;> (try simp only [nrm] at h) <;> (try exact Bool.noConfusion h) <;> have h2 := h <;> (try simp at h2) <;> (replace hs := And.intro h0 (And.intro h (And.intro h2 hs))) <;> simp -dsimp [h0, h, h2, hs]) | with_reducible refine And.intro ?_ ?_
 all_goals try simp -dsimp [hs]
 all_goals try clear hs
 all_goals simp [*]
theorem in_chain (lo hi : Int) (l : List Int) (hl : l.length < 1000000) (objs : List DObj) : DCall Tryz.prog G 89 [iv lo, iv hi, isv l] objs (fun rr objs' => rr = bv (l.all fun x => decide (lo ≤ x) && decide (x ≤ hi)) ∧ objs' = objs) := by
 refine DCall.frame ?_ (by simp) (by simp) objs
 refine DCall_intro Tryz.func89 rfl Tryz.ntmps89 (by simp) rfl ?_
 try simp only [iv, iv, isv]
 have hc := containsFunc_int (G := G) l (fun x => decide (x < lo) || decide (hi < x)) 132 [.ptr 0 0, .ptr 1 0] [.row [.im (rI lo)], .row [.im (rI hi)]] (by simp) (fun x _ => in1_chain x lo hi) hl
 simp only [rI] at hc
 have hs : True := trivial
 repeat' first | (with_reducible first | refine q01 ?_ | refine q11 ?_ | refine q17 ?_) | (with_reducible refine At.fn_ret (by simp -dsimp [hs]; exact rfl) ?_) | (refine CallE.here hc ?_; try simp -dsimp [hs]) | (with_reducible refine DT_regionE [0,1,2,3,4,6] ?_; simp -dsimp [hs])
 all_goals try simp -dsimp [hs]
 all_goals try clear hs
 rw [Bool.eq_iff_iff]; simp
 exact exists_congr fun x => and_congr_right fun _ => by omega
def deskC (c : Chains) (D : List (Int × Int)) (B : List (Int × Issue)) : IC := .ip [.sl (c.reg.map encIssue), .sl (c.lets.map encI), rI c.of, .sl (c.loops.map encLoop), .mp [.int .i64] (encMI D), .mp [.int .i64] (encMSI B)]
def ckL1 (x : ChLoop) : Bool := decide (1 ≤ x.links.length) && decide (x.links.length ≤ 8)
def ckL2 (x : ChLoop) : Bool := (decide (-8000000000 ≤ x.lo) && decide (x.lo ≤ 8000000000)) && (decide (-8000000000 ≤ x.hi) && decide (x.hi ≤ 8000000000)) && decide (x.lo ≤ x.hi)
def usedOk (D : List (Int × Int)) (B : List (Int × Issue)) : List (Int × Int) → List Link → Bool
 | _, [] => true
 | U, y :: r => decide (mlook U y.drawing + 1 ≤ mlook D y.drawing) && (decide (0 ≤ y.dim) && decide (y.dim ≤ ((mlookS B y.drawing).dims.length : Int) - 1)) && usedOk D B (mput y.drawing (mlook U y.drawing + 1) U) r
theorem ckL1_c (d : IC) (x : ChLoop) (objs : List DObj) : DCall Tryz.prog G 236 [.one (.im d), loopv x] objs (fun rr objs' => rr = bv (ckL1 x) ∧ objs' = objs) := by
 refine DCall.frame ?_ (by simp) (by simp) objs
 refine DCall_intro Tryz.func236 rfl Tryz.ntmps236 (by simp) rfl ?_
 try simp only [loopv]
 have c1 := in_chain (G := G) 1 8 [(x.links.length : Int)] (by simp)
 have hs : True := trivial
 repeat' first | (with_reducible first | refine q01 ?_ | refine q11 ?_ | refine q17 ?_) | (with_reducible refine At.fn_ret (by simp -dsimp [hs]; exact rfl) ?_) | (refine CallE.thaw (c1) ?_ ?_ ?_; (focus (simp; done)); (focus (simp; done)); try simp -dsimp [hs]) | (with_reducible refine DT_regionE [1,3,4] ?_; simp -dsimp [hs])
 all_goals try simp -dsimp [hs]
 all_goals try clear hs
 rw [Bool.eq_iff_iff]
 simp [ckL1]
 omega
theorem ckL2_iff (x : ChLoop) : ckL2 x = true ↔ -8000000000 ≤ x.lo ∧ x.lo ≤ 8000000000 ∧ -8000000000 ≤ x.hi ∧ x.hi ≤ 8000000000 ∧ x.lo ≤ x.hi := by
 simp [ckL2]; omega
theorem ckL2_c (d : IC) (x : ChLoop) (objs : List DObj) : DCall Tryz.prog G 237 [.one (.im d), loopv x] objs (fun rr objs' => rr = bv (ckL2 x) ∧ objs' = objs) := by
 refine DCall.frame ?_ (by simp) (by simp) objs
 refine DCall_intro Tryz.func237 rfl Tryz.ntmps237 (by simp) rfl ?_
 try simp only [loopv]
 have c1 := in_chain (G := G) (-8000000000) 8000000000 [x.lo, x.hi] (by simp)
 have hi := ckL2_iff x
 cases hq : ([x.lo, x.hi].all fun y => decide (-8000000000 ≤ y) && decide (y ≤ 8000000000))
 ·rw [hq] at c1
  have hs : True := trivial
  repeat' first | (with_reducible first | refine q01 ?_ | refine q11 ?_ | refine q17 ?_) | (with_reducible refine At.fn_ret (by simp -dsimp [hs]; exact rfl) ?_) | (refine CallE.thaw (c1) ?_ ?_ ?_; (focus (simp; done)); (focus (simp; done)); try simp -dsimp [hs]) | (with_reducible refine DT_regionE [1,3,4] ?_; simp -dsimp [hs])
  all_goals try simp -dsimp [hs]
  all_goals try clear hs
  all_goals simp at hq
  all_goals exact false_of hi (by omega)
 ·rw [hq] at c1
  have hs : True := trivial
  repeat' first | (with_reducible first | refine q01 ?_ | refine q11 ?_ | refine q17 ?_) | (with_reducible refine At.fn_ret (by simp -dsimp [hs]; exact rfl) ?_) | (refine CallE.thaw (c1) ?_ ?_ ?_; (focus (simp; done)); (focus (simp; done)); try simp -dsimp [hs]) | (with_reducible refine DT_regionE [1,3,4] ?_; simp -dsimp [hs])
  all_goals try simp -dsimp [hs]
  all_goals try clear hs
  all_goals simp at hq
  all_goals rw [Bool.eq_iff_iff, hi]
  all_goals simp
  all_goals omega
set_option maxHeartbeats 1000000 in
theorem ckL3_c (c : Chains) (D : List (Int × Int)) (B : List (Int × Issue)) (x : ChLoop) (hl : x.links.length < 1000000) (hB : ∀ n, (mlookS B n).dims.length < 1000000) (objs : List DObj) : DCall Tryz.prog G 238 [.one (.im (deskC c D B)), loopv x] objs (fun rr objs' => rr = bv (usedOk D B [] x.links) ∧ objs' = objs) := by
 refine DCall.frame ?_ (by simp) (by simp) objs
 refine DCall_intro Tryz.func238 rfl Tryz.ntmps238 (by simp) rfl ?_
 try simp only [loopv]
 simp only [deskC]
 have hs : True := trivial
 repeat' first | (with_reducible first | refine q01 ?_ | refine q11 ?_ | refine q12 ?_ | refine q13 ?_ | refine q15 ?_) | (with_reducible refine DT_regionE [0,1,3,4,5,7,10,11,12,13,48] ?_; simp -dsimp [hs])
 all_goals try simp -dsimp [hs]
 all_goals try clear hs
 refine DT_loop (ι := { p : Nat × List (Int × Int) // p.1 ≤ x.links.length ∧ usedOk D B [] x.links = usedOk D B p.2 (x.links.drop p.1) ∧ bd p.2 p.1 }) (fun p => ⟨50, [(0, .one (.im (deskC c D B))), (5, .one (.map 1)), (10, .one (.im (.sl (x.links.map encLink)))), (11, iv (x.links.length : Int)), (12, iv (p.1.1 : Int))], [.row ((encLoop x).map .im), .map [.int .i64] (encM p.1.2)]⟩) (fun p => x.links.length - p.1.1) ⟨(0, []), by simp [bd]⟩ (Weak.of_keep [0,5,10,11,12] (by simp [deskC, encM])) ?_
 rintro ⟨⟨k, U⟩, hk, hu, hb⟩
 simp only at hk hu hb
 simp only [iv, deskC]
 by_cases hlt : k < x.links.length
 ·have hx : x.links[k]? = some x.links[k] := by simp [hlt]
  have hw : IntKind.i64.wrap ((k : Int) + 1) = ((k + 1 : Nat) : Int) := i64w (by omega) (by omega)
  have hbl := bd_look hb x.links[k].drawing
  have hwu : IntKind.i64.wrap (mlook U x.links[k].drawing + 1) = mlook U x.links[k].drawing + 1 := i64w (by omega) (by omega)
  have hput : mlook (mput x.links[k].drawing (mlook U x.links[k].drawing + 1) U) x.links[k].drawing = mlook U x.links[k].drawing + 1 := by rw [mlook_put, if_pos rfl]
  have hBn := hB x.links[k].drawing
  have hwd : IntKind.i64.wrap (((mlookS B x.links[k].drawing).dims.length : Int) - 1) = ((mlookS B x.links[k].drawing).dims.length : Int) - 1 := i64w (by omega) (by omega)
  have c1 := in_chain (G := G) 0 (((mlookS B x.links[k].drawing).dims.length : Int) - 1) [x.links[k].dim] (by simp)
  have hbn : bd (mput x.links[k].drawing (mlook U x.links[k].drawing + 1) U) (k + 1) := bd_put (bd_mono hb (by omega)) (by omega) (by omega)
  rw [List.drop_eq_getElem_cons hlt, usedOk] at hu
  by_cases hle : mlook U x.links[k].drawing + 1 ≤ mlook D x.links[k].drawing
  ·rw [decide_eq_true hle, Bool.true_and] at hu
   cases hq : ([x.links[k].dim].all fun y => decide (0 ≤ y) && decide (y ≤ ((mlookS B x.links[k].drawing).dims.length : Int) - 1))
   ·rw [hq] at c1
    have hq' : (decide (0 ≤ x.links[k].dim) && decide (x.links[k].dim ≤ ((mlookS B x.links[k].drawing).dims.length : Int) - 1)) = false := by simpa using hq
    rw [hq', Bool.false_and] at hu
    have hs : True := trivial
    repeat' first | (with_reducible first | refine q01 ?_ | refine q02 ?_ | refine q05 ?_ | refine q09 ?_ | refine q11 ?_ | refine q12 ?_ | refine q14 ?_ | refine q17 ?_) | (with_reducible refine At.fn_ret (by simp -dsimp [hx, hw, hlt, hwu, hput, hwd, hle, hs]; exact rfl) ?_) | (refine QCall_pure (c1) ?_; try simp -dsimp [hx, hw, hlt, hwu, hput, hwd, hle, hs]) | (refine DT_regionM (id := 6) (nt := 50) 28 [0,1,3,4,5,7,10,11,12,13,48] mixed rfl (by kernel_rfl) ?_; simp -dsimp [hx, hw, hlt, hwu, hput, hwd, hle, hs]) | (with_reducible refine DT_regionE [0,1,3,4,5,7,10,11,12,13,48] ?_; simp -dsimp [hx, hw, hlt, hwu, hput, hwd, hle, hs]) | (refine DT_cond rfl (fun h => ?_) (fun h => ?_) <;> (try simp only [nrm] at h) <;> (try exact Bool.noConfusion h))
    all_goals try simp -dsimp [hx, hw, hlt, hwu, hput, hwd, hle, hs]
    all_goals try clear hs
    rw [hu]
   ·rw [hq] at c1
    have hq' : (decide (0 ≤ x.links[k].dim) && decide (x.links[k].dim ≤ ((mlookS B x.links[k].drawing).dims.length : Int) - 1)) = true := by simpa using hq
    rw [hq', Bool.true_and] at hu
    have hs : True := trivial
    repeat' first | (with_reducible first | refine q01 ?_ | refine q03 ?_ | refine q06 ?_ | refine q11 ?_ | refine q12 ?_ | refine q14 ?_ | refine q16 ?_) | (refine QCall_pure (c1) ?_; try simp -dsimp [hx, hw, hlt, hwu, hput, hwd, hle, hs]) | (refine DT_regionM (id := 6) (nt := 50) 28 [0,1,3,4,5,7,10,11,12,13,48] mixed rfl (by kernel_rfl) ?_; simp -dsimp [hx, hw, hlt, hwu, hput, hwd, hle, hs]) | (with_reducible refine DT_regionE [0,1,3,4,5,7,10,11,12,13,48] ?_; simp -dsimp [hx, hw, hlt, hwu, hput, hwd, hle, hs]) | (refine DT_cond rfl (fun h => ?_) (fun h => ?_) <;> (try simp only [nrm] at h) <;> (try exact Bool.noConfusion h))
    all_goals try simp -dsimp [hx, hw, hlt, hwu, hput, hwd, hle, hs]
    all_goals try clear hs
    exact At.round ⟨(k + 1, mput x.links[k].drawing (mlook U x.links[k].drawing + 1) U), by omega, hu, hbn⟩ (by simp; omega) (Weak.of_drop [0,5,10,11,12] 2 (by simp) (by simp) (by simp [deskC]))
  ·rw [decide_eq_false hle, Bool.false_and, Bool.false_and] at hu
   have hs : True := trivial
   repeat' first | (with_reducible first | refine q01 ?_ | refine q02 ?_ | refine q05 ?_ | refine q09 ?_ | refine q11 ?_ | refine q12 ?_ | refine q14 ?_ | refine q17 ?_) | (with_reducible refine At.fn_ret (by simp -dsimp [hx, hw, hlt, hwu, hput, hwd, hle, hs]; exact rfl) ?_) | (refine DT_regionM (id := 6) (nt := 50) 28 [0,1,3,4,5,7,10,11,12,13,48] mixed rfl (by kernel_rfl) ?_; simp -dsimp [hx, hw, hlt, hwu, hput, hwd, hle, hs]) | (with_reducible refine DT_regionE [0,1,3,4,5,7,10,11,12,13,48] ?_; simp -dsimp [hx, hw, hlt, hwu, hput, hwd, hle, hs]) | (refine DT_cond rfl (fun h => ?_) (fun h => ?_) <;> (try simp only [nrm] at h) <;> (try exact Bool.noConfusion h))
   all_goals try simp -dsimp [hx, hw, hlt, hwu, hput, hwd, hle, hs]
   all_goals try clear hs
   rw [hu]
 ·rw [List.drop_eq_nil_of_le (by omega)] at hu
  have hs : True := trivial
  repeat' first | (with_reducible first | refine q01 ?_ | refine q03 ?_ | refine q06 ?_ | refine q09 ?_ | refine q11 ?_ | refine q16 ?_ | refine q17 ?_) | (with_reducible refine At.fn_ret (by simp -dsimp [hlt, hs]; exact rfl) ?_) | (with_reducible refine DT_regionE [0,1,3,4,5,7,10,11,12,13,48] ?_; simp -dsimp [hlt, hs]) | (refine DT_cond rfl (fun h => ?_) (fun h => ?_) <;> (try simp only [nrm] at h) <;> (try exact Bool.noConfusion h))
  all_goals try simp -dsimp [hlt, hs]
  all_goals try clear hs
  rw [hu]; rfl
end Go.Proofs
namespace Go.Proofs
open Go Go.Ab
set_option linter.unusedSimpArgs false
variable {G : Nat → Option (List IC)}
def chainG (G : Nat → Option (List IC)) : Prop := G 1 = some [.fn (.func 236) [], .fn (.func 237) [], .fn (.func 238) []]
def SmallC (c : Chains) : Prop := SmallR c.reg ∧ c.lets.length ≤ 80 ∧ c.loops.length ≤ 10 ∧ ∀ x ∈ c.loops, x.links.length ≤ 12
def cntD (c : Chains) : List (Int × Int) := (explR c.reg c.lets c.of).foldl (fun m x => mput x.drawing x.count m) []
def chkP (D : List (Int × Int)) (B : List (Int × Issue)) (x : ChLoop) : Nat → Bool
 | 0 => ckL1 x
 | 1 => ckL2 x
 | _ => usedOk D B [] x.links
def loopOkP (D : List (Int × Int)) (B : List (Int × Issue)) (x : ChLoop) : Bool := ckL1 x && ckL2 x && usedOk D B [] x.links
theorem chkP_bad {D : List (Int × Int)} {B : List (Int × Issue)} {x : ChLoop} {i : Nat} (h : chkP D B x i = false) : loopOkP D B x = false := by
 unfold loopOkP
 match i with
 | 0 => simp only [chkP] at h; simp [h]
 | 1 => simp only [chkP] at h; simp [h]
 | i + 2 => simp only [chkP] at h; simp [h]
theorem chkP_all {D : List (Int × Int)} {B : List (Int × Issue)} {x : ChLoop} (h : ∀ i < 3, chkP D B x i = true) : loopOkP D B x = true := by
 have h0 := h 0 (by omega); have h1 := h 1 (by omega); have h2 := h 2 (by omega)
 simp only [chkP] at h0 h1 h2
 simp [loopOkP, h0, h1, h2]
def chainsE (c : Chains) : Int := if checkR c.reg ≠ 0 then checkR c.reg else if takenE c.reg c.lets c.of ≠ 0 ∨ ¬ (1 ≤ c.loops.length ∧ c.loops.length ≤ 6) then 60 else if c.loops.all (loopOkP (cntD c) (tkM c.reg c.lets)) then 0 else 60
def deskR (c : Chains) : DV := if chainsE c = 0 then .one (.im (deskC c (cntD c) (tkM c.reg c.lets))) else .one (.im (.raw (.pointer none)))
theorem deskR_im (c : Chains) : ImV (deskR c) := by unfold deskR; split <;> simp [deskC]
attribute [simp] deskR_im
theorem explR_len (l : List Issue) (lets : List Int) (d : Int) : (explR l lets d).length ≤ l.length := by
 unfold explR
 split
 ·simp only [partsP, List.length_map]
  have := List.length_filter_le (fun n => decide (0 < mlook (cntM l lets d) n)) (nums l)
  have := numsTo_length l l.length
  simp only [nums] at *; omega
 ·simp
set_option maxHeartbeats 4000000 in
theorem chOpen_c (c : Chains) (hG : sheetG G) (hC : chainG G) (hs : SmallC c) (objs : List DObj) : DCall Tryz.prog G 72 [chv c] objs (fun rr objs' => rr = .tup [deskR c, iv (chainsE c)] ∧ objs' = objs) := by
 refine DCall.frame ?_ (by simp) (by simp) objs
 refine DCall_intro Tryz.func72 rfl Tryz.ntmps72 (by simp) rfl ?_
 try simp only [chv]
 obtain ⟨hsr, hsl, hso, hsk⟩ := hs
 have hC' : G 1 = some [.fn (.func 236) [], .fn (.func 237) [], .fn (.func 238) []] := hC
 have c1 := sheetCheck_c c.reg hG hsr
 by_cases h0 : checkR c.reg = 0
 ·rw [h0] at c1
  have c2 := explode_c c.reg c.lets c.of hG hsr (by omega)
  have c3 := in_chain (G := G) 1 6 [(c.loops.length : Int)] (by simp)
  by_cases hT : takenE c.reg c.lets c.of ≠ 0 ∨ ¬ (1 ≤ c.loops.length ∧ c.loops.length ≤ 6)
  ·have hE : chainsE c = 60 := by unfold chainsE; rw [if_neg (by simp [h0]), if_pos hT]
   by_cases hT0 : takenE c.reg c.lets c.of = 0
   ·rw [hT0] at c2
    have hr : ([(c.loops.length : Int)].all fun x => decide (1 ≤ x) && decide (x ≤ 6)) = false := by
     simp; omega
    rw [hr] at c3
    have hs : True := trivial
    repeat' first | (with_reducible first | refine q01 ?_ | refine q02 ?_ | refine q11 ?_ | refine q14 ?_ | refine q17 ?_) | (with_reducible refine At.fn_ret (by simp -dsimp [hs]; exact rfl) ?_) | (refine CallE.pure (c1) ?_; try simp -dsimp [hs]) | (refine CallE.pure (c2) ?_; try simp -dsimp [hs]) | (refine CallE.thaw (c3) ?_ ?_ ?_; (focus (simp; done)); (focus (simp; done)); try simp -dsimp [hs]) | (with_reducible refine DT_regionE [0,1,2,3,4,5,6,7,8,10,11,13,15,17,22,43,55,56,57,58,81,82,83,84,97,98,99,100,103,104,105,112] ?_; simp -dsimp [hs]) | (refine DT_cond rfl (fun h => ?_) (fun h => ?_) <;> (try simp only [nrm] at h) <;> (try exact Bool.noConfusion h))
    all_goals try simp -dsimp [hs]
    all_goals try clear hs
    all_goals simp [deskR, hE]
   ·have hs : True := trivial
    repeat' first | (with_reducible first | refine q01 ?_ | refine q02 ?_ | refine q11 ?_ | refine q14 ?_ | refine q17 ?_) | (with_reducible refine At.fn_ret (by simp -dsimp [hT0, hs]; exact rfl) ?_) | (refine CallE.pure (c1) ?_; try simp -dsimp [hT0, hs]) | (refine CallE.pure (c2) ?_; try simp -dsimp [hT0, hs]) | (with_reducible refine DT_regionE [0,1,2,3,4,5,6,7,8,10,11,13,15,17,22,43,55,56,57,58,81,82,83,84,97,98,99,100,103,104,105,112] ?_; simp -dsimp [hT0, hs]) | (refine DT_cond rfl (fun h => ?_) (fun h => ?_) <;> (try simp only [nrm] at h) <;> (try exact Bool.noConfusion h))
    all_goals try simp -dsimp [hT0, hs]
    all_goals try clear hs
    all_goals simp [deskR, hE]
  ·have hT0 : takenE c.reg c.lets c.of = 0 := Classical.byContradiction fun h => hT (.inl h)
   have hr6 : 1 ≤ c.loops.length ∧ c.loops.length ≤ 6 := Classical.byContradiction fun h => hT (.inr h)
   have hr : ([(c.loops.length : Int)].all fun x => decide (1 ≤ x) && decide (x ≤ 6)) = true := by
    simp; omega
   rw [hT0] at c2
   rw [hr] at c3
   have hlet : lettersI c.reg c.lets = true := by
    cases h : lettersI c.reg c.lets
    ·simp [takenE, h0, h] at hT0
    ·rfl
   have c4 := drawings_c c.reg hG hsr
   rw [h0, show drawR c.reg = nums c.reg by simp [drawR, h0]] at c4
   have hE : chainsE c = if c.loops.all (loopOkP (cntD c) (tkM c.reg c.lets)) then 0 else 60 := by simp [chainsE, h0, hT0]; omega
   have hs : True := trivial
   repeat' first | (with_reducible first | refine q01 ?_ | refine q11 ?_ | refine q12 ?_ | refine q14 ?_) | (refine CallE.pure (c1) ?_; try simp -dsimp [hs]) | (refine CallE.pure (c2) ?_; try simp -dsimp [hs]) | (refine CallE.thaw (c3) ?_ ?_ ?_; (focus (simp; done)); (focus (simp; done)); try simp -dsimp [hs]) | (refine CallE.pure (c4) ?_; try simp -dsimp [hs]) | (with_reducible refine DT_regionN (id := 7) (nt := 116) [0,1,2,3,4,5,6,7,8,10,11,13,15,17,22,43,55,56,57,58,81,82,83,84,97,98,99,100,103,104,105,112] rfl ?_; simp -dsimp [hs]) | (with_reducible refine DT_regionE [0,1,2,3,4,5,6,7,8,10,11,13,15,17,22,43,55,56,57,58,81,82,83,84,97,98,99,100,103,104,105,112] ?_; simp -dsimp [hs]) | (refine DT_cond rfl (fun h => ?_) (fun h => ?_) <;> (try simp only [nrm] at h) <;> (try exact Bool.noConfusion h))
   all_goals try simp -dsimp [hs]
   all_goals try clear hs
   have hnd : (nums c.reg).Nodup := (check_nums h0).1.imp fun h => Int.ne_of_lt h
   have hnl : (nums c.reg).length ≤ c.reg.length := numsTo_length c.reg c.reg.length
   have hll : c.lets.length = (nums c.reg).length := by
    simp only [lettersI, Bool.and_eq_true, decide_eq_true_eq] at hlet; exact hlet.1
   have hreg := hsr.1
   refine DT_loop (ι := { k : Nat // k ≤ (nums c.reg).length }) (fun p => ⟨116, [(1, .one (.ptr 0 0)), (2, .one (.im (.raw (.pointer none)))), (3, iv 0), (5, .one (.im (.sl ((explR c.reg c.lets c.of).map encItem)))), (7, .one (.ptr 7 0)), (55, isv (nums c.reg)), (56, iv ((nums c.reg).length : Int)), (57, iv (p.1 : Int))], [.row ((encChains c).map .im), .vec 1 [[.im (rI (c.loops.length : Int))]] 0 false, .map [.int .i64] [], .map [.int .i64] (encMS (((nums c.reg).take p.1).map fun d => (d, takeI c.reg c.lets d))), .vec 0 [] 0 true, .vec 0 [] 0 true, .vec 0 [] 0 true, .row ((encChains c).map .im ++ [.map 2, .map 3])]⟩) (fun p => (nums c.reg).length - p.1) ⟨0, by omega⟩ (Weak.of_keep [1,2,3,5,7,55,56,57] (by simp [encMS])) ?_
   rintro ⟨k, hk⟩
   simp only [iv, isv]
   by_cases hlt : k < (nums c.reg).length
   ·have hx : (nums c.reg)[k]? = some (nums c.reg)[k] := by simp [hlt]
    have hkl : k < c.lets.length := by omega
    have hy : c.lets[k]? = some c.lets[k] := by simp [hkl]
    have hw : IntKind.i64.wrap ((k : Int) + 1) = ((k + 1 : Nat) : Int) := i64w (by omega) (by omega)
    have c5 := at_c c.reg (nums c.reg)[k] c.lets[k] hG hsr
    have hta := take_at hnd hlt hkl
    rw [show atR c.reg (nums c.reg)[k] c.lets[k] = takeI c.reg c.lets (nums c.reg)[k] by rw [hta]; simp [atR, h0]] at c5
    have hmp : mputS (nums c.reg)[k] (takeI c.reg c.lets (nums c.reg)[k]) (((nums c.reg).take k).map fun d => (d, takeI c.reg c.lets d)) = (((nums c.reg).take (k + 1)).map fun d => (d, takeI c.reg c.lets d)) := by
     rw [mputS_new, List.take_succ_eq_append_getElem hlt, List.map_append, List.map_singleton]
     rw [List.map_map]
     intro hm
     obtain ⟨z, hz, e⟩ := List.mem_map.1 hm
     simp only [Function.comp] at e
     subst e
     obtain ⟨i, hi, e⟩ := List.mem_take_iff_getElem.1 hz
     have := (List.getElem_inj hnd).1 e; omega
    generalize takeI c.reg c.lets (nums c.reg)[k] = y at *
    have hmp' : mputS (nums c.reg)[k] ⟨y.drawing, y.letter, y.kind, y.items, y.dims⟩ (((nums c.reg).take k).map fun d => (d, takeI c.reg c.lets d)) = (((nums c.reg).take (k + 1)).map fun d => (d, takeI c.reg c.lets d)) := hmp
    simp only [refv] at c5
    simp only [List.map_take] at hmp'
    have hs : True := trivial
    repeat' first | (with_reducible first | refine q01 ?_ | refine q04 ?_ | refine q11 ?_ | refine q12 ?_ | refine q14 ?_) | (refine QCall_pure (c5) ?_; try simp -dsimp [hx, hy, hlt, hkl, hw, hs]) | (refine DT_regionX (id := 12) (nt := 116) 18 [17] [0,1,2,3,4,5,6,7,8,10,11,13,15,17,22,43,55,56,57,58,62,63,64,65,66,67,68,69,70,71,72,73,74,75,76,77,78,81,82,83,84,97,98,99,100,103,104,105,112] [0,1,2,3,4,5,6,7,8,10,11,13,15,17,22,43,55,56,57,58,81,82,83,84,97,98,99,100,103,104,105,112] mixed rfl (by kernel_rfl) ?_; simp -dsimp [hx, hy, hlt, hkl, hw, hs]) | (with_reducible refine DT_regionE [0,1,2,3,4,5,6,7,8,10,11,13,15,17,22,43,55,56,57,58,81,82,83,84,97,98,99,100,103,104,105,112] ?_; simp -dsimp [hx, hy, hlt, hkl, hw, hs]) | (refine DT_cond rfl (fun h => ?_) (fun h => ?_) <;> (try simp only [nrm] at h) <;> (try exact Bool.noConfusion h))
    all_goals try simp -dsimp [hx, hy, hlt, hkl, hw, hs]
    all_goals try clear hs
    exact At.round ⟨k + 1, by omega⟩ (by simp; omega) (Weak.of_drop [1,2,3,5,7,55,56,57] 8 (by simp) (by simp) (by simp [hmp']))
   have htk : (nums c.reg).take k = nums c.reg := List.take_of_length_le (by omega)
   rw [htk]
   change DT _ _ _ _ ⟨_, _, [_, _, _, .map _ (encMS (tkM c.reg c.lets)), _, _, _, _]⟩ _
   have hs : True := trivial
   repeat' first | (with_reducible first | refine q01 ?_ | refine q03 ?_ | refine q06 ?_ | refine q11 ?_ | refine q12 ?_ | refine q16 ?_) | (with_reducible refine DT_regionE [0,1,2,3,4,5,6,7,8,10,11,13,15,17,22,43,55,56,57,58,81,82,83,84,97,98,99,100,103,104,105,112] ?_; simp -dsimp [hlt, hs]) | (refine DT_cond rfl (fun h => ?_) (fun h => ?_) <;> (try simp only [nrm] at h) <;> (try exact Bool.noConfusion h))
   all_goals try simp -dsimp [hlt, hs]
   all_goals try clear hs
   have hpl := explR_len c.reg c.lets c.of
   have hcD : cntD c = (explR c.reg c.lets c.of).foldl (fun m x => mput x.drawing x.count m) [] := rfl
   generalize explR c.reg c.lets c.of = ps at *
   refine DT_loop (ι := { p : Nat × List (Int × Int) // p.1 ≤ ps.length ∧ cntD c = (ps.drop p.1).foldl (fun m x => mput x.drawing x.count m) p.2 }) (fun p => ⟨116, [(1, .one (.ptr 0 0)), (2, .one (.im (.raw (.pointer none)))), (3, iv 0), (7, .one (.ptr 7 0)), (81, .one (.im (.sl (ps.map encItem)))), (82, iv (ps.length : Int)), (83, iv (p.1.1 : Int))], [.row ((encChains c).map .im), .vec 1 [[.im (rI (c.loops.length : Int))]] 0 false, .map [.int .i64] (encM p.1.2), .map [.int .i64] (encMS (tkM c.reg c.lets)), .vec 0 [] 0 true, .vec 0 [] 0 true, .vec 0 [] 0 true, .row ((encChains c).map .im ++ [.map 2, .map 3])]⟩) (fun p => ps.length - p.1.1) ⟨(0, []), by simp [hcD]⟩ (Weak.of_keep [1,2,3,7,81,82,83] (by simp [encM])) ?_
   rintro ⟨⟨u, D⟩, hu, hD⟩
   simp only at hu hD
   simp only [iv]
   by_cases hlu : u < ps.length
   ·have hx : ps[u]? = some ps[u] := by simp [hlu]
    have hw : IntKind.i64.wrap ((u : Int) + 1) = ((u + 1 : Nat) : Int) := i64w (by omega) (by omega)
    rw [List.drop_eq_getElem_cons hlu, List.foldl_cons] at hD
    have hs : True := trivial
    repeat' first | (with_reducible first | refine q01 ?_ | refine q04 ?_ | refine q11 ?_ | refine q12 ?_ | refine q14 ?_) | (refine DT_regionM (id := 17) (nt := 116) 8 [0,1,2,3,4,5,6,7,8,10,11,13,15,17,22,43,55,56,57,58,81,82,83,84,97,98,99,100,103,104,105,112] mixed rfl (by kernel_rfl) ?_; simp -dsimp [hx, hlu, hw, hs]) | (with_reducible refine DT_regionE [0,1,2,3,4,5,6,7,8,10,11,13,15,17,22,43,55,56,57,58,81,82,83,84,97,98,99,100,103,104,105,112] ?_; simp -dsimp [hx, hlu, hw, hs]) | (refine DT_cond rfl (fun h => ?_) (fun h => ?_) <;> (try simp only [nrm] at h) <;> (try exact Bool.noConfusion h))
    all_goals try simp -dsimp [hx, hlu, hw, hs]
    all_goals try clear hs
    exact At.round ⟨(u + 1, mput ps[u].drawing ps[u].count D), by omega, hD⟩ (by simp; omega) (Weak.of_drop [1,2,3,7,81,82,83] 8 (by simp) (by simp) (by simp))
   have hDe : D = cntD c := by rw [hD, List.drop_eq_nil_of_le (by omega)]; rfl
   subst hDe
   have hB : ∀ n, (mlookS (tkM c.reg c.lets) n).dims.length < 1000000 := fun n => by
    rw [tkM, mlookS_map]
    split
    ·rename_i hn
     obtain ⟨hm, _⟩ := take_spec h0 hlet hn
     have := (hsr.2 _ hm).2.2.2; omega
    ·decide
   have hs : True := trivial
   repeat' first | (with_reducible first | refine q01 ?_ | refine q03 ?_ | refine q06 ?_ | refine q11 ?_ | refine q12 ?_ | refine q16 ?_) | (with_reducible refine DT_regionE [0,1,2,3,4,5,6,7,8,10,11,13,15,17,22,43,55,56,57,58,81,82,83,84,97,98,99,100,103,104,105,112] ?_; simp -dsimp [hlu, hs]) | (refine DT_cond rfl (fun h => ?_) (fun h => ?_) <;> (try simp only [nrm] at h) <;> (try exact Bool.noConfusion h))
   all_goals try simp -dsimp [hlu, hs]
   all_goals try clear hs
   refine DT_loop (ι := { j : Nat // j ≤ c.loops.length ∧ c.loops.all (loopOkP (cntD c) (tkM c.reg c.lets)) = (c.loops.drop j).all (loopOkP (cntD c) (tkM c.reg c.lets)) }) (fun p => ⟨116, [(2, .one (.im (.raw (.pointer none)))), (3, iv 0), (7, .one (.im (deskC c (cntD c) (tkM c.reg c.lets)))), (97, .one (.im (.sl (c.loops.map encLoop)))), (98, iv (c.loops.length : Int)), (99, iv (p.1 : Int))], []⟩) (fun p => c.loops.length - p.1) ⟨0, by simp⟩ (Weak.of_drop [2,3,7,97,98,99] 0 (by simp) (by simp) (by simp [deskC])) ?_
   rintro ⟨j, hj, hall⟩
   simp only [iv]
   by_cases hlj : j < c.loops.length
   ·have hx : c.loops[j]? = some c.loops[j] := by simp [hlj]
    have hw : IntKind.i64.wrap ((j : Int) + 1) = ((j + 1 : Nat) : Int) := i64w (by omega) (by omega)
    have hst := all_step hlj hall
    have hln := hsk c.loops[j] (List.getElem_mem hlj)
    have k1 := ckL1_c (G := G) (deskC c (cntD c) (tkM c.reg c.lets)) c.loops[j]
    have k2 := ckL2_c (G := G) (deskC c (cntD c) (tkM c.reg c.lets)) c.loops[j]
    have k3 := ckL3_c (G := G) c (cntD c) (tkM c.reg c.lets) c.loops[j] (by omega) hB
    have hbad : ∀ i, chkP (cntD c) (tkM c.reg c.lets) c.loops[j] i = false → chainsE c = 60 := fun i h => by
     rw [hE, false_step hst (by rw [chkP_bad h]; exact Bool.false_ne_true)]; rfl
    have hq1 : chkP (cntD c) (tkM c.reg c.lets) c.loops[j] 0 = ckL1 c.loops[j] := rfl
    have hq2 : chkP (cntD c) (tkM c.reg c.lets) c.loops[j] 1 = ckL2 c.loops[j] := rfl
    have hq3 : chkP (cntD c) (tkM c.reg c.lets) c.loops[j] 2 = usedOk (cntD c) (tkM c.reg c.lets) [] c.loops[j].links := rfl
    rw [← hq1] at k1; rw [← hq2] at k2; rw [← hq3] at k3
    clear hq1 hq2 hq3
    have hs : True := trivial
    repeat' first | (with_reducible first | refine q01 ?_ | refine q11 ?_ | refine q12 ?_ | refine q14 ?_) | (with_reducible refine DT_regionE [0,1,2,3,4,5,6,7,8,10,11,13,15,17,22,43,55,56,57,58,81,82,83,84,97,98,99,100,103,104,105,112] ?_; simp -dsimp [hx, hlj, hC', hs]) | (refine DT_cond rfl (fun h => ?_) (fun h => ?_) <;> (try simp only [nrm] at h) <;> (try exact Bool.noConfusion h))
    all_goals try simp -dsimp [hx, hlj, hC', hs]
    all_goals try clear hs
    refine DT_loop (ι := { i : Nat // i ≤ 3 ∧ ∀ e < i, chkP (cntD c) (tkM c.reg c.lets) c.loops[j] e = true }) (fun p => ⟨116, [(2, .one (.im (.raw (.pointer none)))), (3, iv 0), (7, .one (.im (deskC c (cntD c) (tkM c.reg c.lets)))), (15, .one (.ptr 1 0)), (97, .one (.im (.sl (c.loops.map encLoop)))), (98, iv (c.loops.length : Int)), (99, iv (j : Int)), (103, .agg [.im (.fn (.func 236) []), .im (.fn (.func 237) []), .im (.fn (.func 238) [])]), (104, iv (p.1 : Int))], [.vec 0 [] 0 true, .row ((encLoop c.loops[j]).map .im)]⟩) (fun p => 3 - p.1) ⟨0, by simp⟩ (Weak.of_keep [2,3,7,15,97,98,99,103,104] (by simp)) ?_
    rintro ⟨i, hi, hcc⟩
    simp only [iv]
    by_cases hi3 : i < 3
    ·have hwc : IntKind.i64.wrap ((i : Int) + 1) = ((i + 1 : Nat) : Int) := i64w (by omega) (by omega)
     match i, hi3, hi, hcc, hwc with
     | 0, hi3, hi, hcc, hwc =>
       cases hq : chkP (cntD c) (tkM c.reg c.lets) c.loops[j] 0 <;> simp only [hq] at k1
       ·have h60 := hbad 0 hq
        have hs : True := trivial
        repeat' first | (with_reducible first | refine q01 ?_ | refine q02 ?_ | refine q05 ?_ | refine q11 ?_ | refine q12 ?_ | refine q14 ?_ | refine q17 ?_) | (with_reducible refine At.fn_ret (by simp -dsimp [hs]; exact rfl) ?_) | (refine CallE.pure (k1) ?_; try simp -dsimp [hs]) | (with_reducible refine DT_regionE [0,1,2,3,4,5,6,7,8,10,11,13,15,17,22,43,55,56,57,58,81,82,83,84,97,98,99,100,103,104,105,112] ?_; simp -dsimp [hs]) | (refine DT_cond rfl (fun h => ?_) (fun h => ?_) <;> (try simp only [nrm] at h) <;> (try exact Bool.noConfusion h))
        all_goals try simp -dsimp [hs]
        all_goals try clear hs
        all_goals simp [deskR, h60]
       ·have hs : True := trivial
        repeat' first | (with_reducible first | refine q01 ?_ | refine q04 ?_ | refine q11 ?_ | refine q12 ?_ | refine q14 ?_) | (refine CallE.pure (k1) ?_; try simp -dsimp [hwc, hs]) | (with_reducible refine DT_regionE [0,1,2,3,4,5,6,7,8,10,11,13,15,17,22,43,55,56,57,58,81,82,83,84,97,98,99,100,103,104,105,112] ?_; simp -dsimp [hwc, hs]) | (refine DT_cond rfl (fun h => ?_) (fun h => ?_) <;> (try simp only [nrm] at h) <;> (try exact Bool.noConfusion h))
        all_goals try simp -dsimp [hwc, hs]
        all_goals try clear hs
        exact At.round ⟨1, by omega, fun i hi => by
         rcases Nat.lt_succ_iff_lt_or_eq.1 hi with h | rfl
         ·exact hcc i h
         ·exact hq⟩ (by simp) (Weak.of_drop [2,3,7,15,97,98,99,103,104] 2 (by simp) (by simp) (by simp; exact i64w (by omega) (by omega)))
     | 1, hi3, hi, hcc, hwc =>
       cases hq : chkP (cntD c) (tkM c.reg c.lets) c.loops[j] 1 <;> simp only [hq] at k2
       ·have h60 := hbad 1 hq
        have hs : True := trivial
        repeat' first | (with_reducible first | refine q01 ?_ | refine q02 ?_ | refine q05 ?_ | refine q11 ?_ | refine q12 ?_ | refine q14 ?_ | refine q17 ?_) | (with_reducible refine At.fn_ret (by simp -dsimp [hs]; exact rfl) ?_) | (refine CallE.pure (k2) ?_; try simp -dsimp [hs]) | (with_reducible refine DT_regionE [0,1,2,3,4,5,6,7,8,10,11,13,15,17,22,43,55,56,57,58,81,82,83,84,97,98,99,100,103,104,105,112] ?_; simp -dsimp [hs]) | (refine DT_cond rfl (fun h => ?_) (fun h => ?_) <;> (try simp only [nrm] at h) <;> (try exact Bool.noConfusion h))
        all_goals try simp -dsimp [hs]
        all_goals try clear hs
        all_goals simp [deskR, h60]
       ·have hs : True := trivial
        repeat' first | (with_reducible first | refine q01 ?_ | refine q04 ?_ | refine q11 ?_ | refine q12 ?_ | refine q14 ?_) | (refine CallE.pure (k2) ?_; try simp -dsimp [hwc, hs]) | (with_reducible refine DT_regionE [0,1,2,3,4,5,6,7,8,10,11,13,15,17,22,43,55,56,57,58,81,82,83,84,97,98,99,100,103,104,105,112] ?_; simp -dsimp [hwc, hs]) | (refine DT_cond rfl (fun h => ?_) (fun h => ?_) <;> (try simp only [nrm] at h) <;> (try exact Bool.noConfusion h))
        all_goals try simp -dsimp [hwc, hs]
        all_goals try clear hs
        exact At.round ⟨2, by omega, fun i hi => by
         rcases Nat.lt_succ_iff_lt_or_eq.1 hi with h | rfl
         ·exact hcc i h
         ·exact hq⟩ (by simp) (Weak.of_drop [2,3,7,15,97,98,99,103,104] 2 (by simp) (by simp) (by simp; exact i64w (by omega) (by omega)))
     | 2, hi3, hi, hcc, hwc =>
       cases hq : chkP (cntD c) (tkM c.reg c.lets) c.loops[j] 2 <;> simp only [hq] at k3
       ·have h60 := hbad 2 hq
        have hs : True := trivial
        repeat' first | (with_reducible first | refine q01 ?_ | refine q02 ?_ | refine q05 ?_ | refine q11 ?_ | refine q12 ?_ | refine q14 ?_ | refine q17 ?_) | (with_reducible refine At.fn_ret (by simp -dsimp [hs]; exact rfl) ?_) | (refine CallE.pure (k3) ?_; try simp -dsimp [hs]) | (with_reducible refine DT_regionE [0,1,2,3,4,5,6,7,8,10,11,13,15,17,22,43,55,56,57,58,81,82,83,84,97,98,99,100,103,104,105,112] ?_; simp -dsimp [hs]) | (refine DT_cond rfl (fun h => ?_) (fun h => ?_) <;> (try simp only [nrm] at h) <;> (try exact Bool.noConfusion h))
        all_goals try simp -dsimp [hs]
        all_goals try clear hs
        all_goals simp [deskR, h60]
       ·have hs : True := trivial
        repeat' first | (with_reducible first | refine q01 ?_ | refine q04 ?_ | refine q11 ?_ | refine q12 ?_ | refine q14 ?_) | (refine CallE.pure (k3) ?_; try simp -dsimp [hwc, hs]) | (with_reducible refine DT_regionE [0,1,2,3,4,5,6,7,8,10,11,13,15,17,22,43,55,56,57,58,81,82,83,84,97,98,99,100,103,104,105,112] ?_; simp -dsimp [hwc, hs]) | (refine DT_cond rfl (fun h => ?_) (fun h => ?_) <;> (try simp only [nrm] at h) <;> (try exact Bool.noConfusion h))
        all_goals try simp -dsimp [hwc, hs]
        all_goals try clear hs
        exact At.round ⟨3, by omega, fun i hi => by
         rcases Nat.lt_succ_iff_lt_or_eq.1 hi with h | rfl
         ·exact hcc i h
         ·exact hq⟩ (by simp) (Weak.of_drop [2,3,7,15,97,98,99,103,104] 2 (by simp) (by simp) (by simp; exact i64w (by omega) (by omega)))
    ·obtain rfl : i = 3 := by omega
     have hok := chkP_all hcc
     have hs : True := trivial
     repeat' first | (with_reducible first | refine q01 ?_ | refine q03 ?_ | refine q04 ?_ | refine q06 ?_ | refine q11 ?_ | refine q16 ?_) | (with_reducible refine DT_regionE [0,1,2,3,4,5,6,7,8,10,11,13,15,17,22,43,55,56,57,58,81,82,83,84,97,98,99,100,103,104,105,112] ?_; simp -dsimp [hw, hs]) | (refine DT_cond rfl (fun h => ?_) (fun h => ?_) <;> (try simp only [nrm] at h) <;> (try exact Bool.noConfusion h))
     all_goals try simp -dsimp [hw, hs]
     all_goals try clear hs
     exact At.round ⟨j + 1, by omega, eq_of_step hst hok⟩ (by simp; omega) (Weak.of_drop [2,3,7,97,98,99] 0 (by simp) (by simp) (by simp))
   ·have hok : c.loops.all (loopOkP (cntD c) (tkM c.reg c.lets)) = true := by rw [hall, List.drop_eq_nil_of_le (by omega)]; rfl
    rw [hok] at hE
    have hs : True := trivial
    repeat' first | (with_reducible first | refine q01 ?_ | refine q03 ?_ | refine q06 ?_ | refine q11 ?_ | refine q16 ?_ | refine q17 ?_) | (with_reducible refine At.fn_ret (by simp -dsimp [hlj, hs]; exact rfl) ?_) | (with_reducible refine DT_regionE [0,1,2,3,4,5,6,7,8,10,11,13,15,17,22,43,55,56,57,58,81,82,83,84,97,98,99,100,103,104,105,112] ?_; simp -dsimp [hlj, hs]) | (refine DT_cond rfl (fun h => ?_) (fun h => ?_) <;> (try simp only [nrm] at h) <;> (try exact Bool.noConfusion h))
    all_goals try simp -dsimp [hlj, hs]
    all_goals try clear hs
    simp [deskR, hE]
 ·have hE : chainsE c = checkR c.reg := by simp [chainsE, h0]
  have hs : True := trivial
  repeat' first | (with_reducible first | refine q01 ?_ | refine q02 ?_ | refine q11 ?_ | refine q17 ?_) | (with_reducible refine At.fn_ret (by simp -dsimp [h0, hs]; exact rfl) ?_) | (refine CallE.pure (c1) ?_; try simp -dsimp [h0, hs]) | (with_reducible refine DT_regionE [0,1,2,3,4,5,6,7,8,10,11,13,15,17,22,43,55,56,57,58,81,82,83,84,97,98,99,100,103,104,105,112] ?_; simp -dsimp [h0, hs]) | (refine DT_cond rfl (fun h => ?_) (fun h => ?_) <;> (try simp only [nrm] at h) <;> (try exact Bool.noConfusion h))
  all_goals try simp -dsimp [h0, hs]
  all_goals try clear hs
  simp [deskR, hE, h0]
end Go.Proofs
namespace Go.Proofs
open Go Go.Ab
theorem rdLink : Rd 70 encLink (fun _ => True) := (Opens.struct Tryz.underlying70 (by kernel_rfl) (pick3 (fun _ => True) (fun l => ∃ n : Int, l = [rI n]) (fun l => ∃ n : Int, l = [rI n]) (fun l => ∃ b : Bool, l = [rB b])) (fun i f hf => by
 rcases i with _ | _ | _ | i <;> simp at hf <;> subst hf
 ·exact oInt
 ·exact oInt
 ·exact oBool)).mono (by
 rintro l ⟨ls, h1, h2, rfl⟩
 obtain ⟨a, b, c, rfl⟩ := len3 h1
 obtain ⟨x, rfl⟩ := h2 0 a rfl
 obtain ⟨y, rfl⟩ := h2 1 b rfl
 obtain ⟨z, rfl⟩ := h2 2 c rfl
 exact ⟨⟨x, y, z⟩, trivial, rfl⟩)
theorem oLinks : Opens Tryz.prog 64 (fun l => ∃ xs : List Link, l = [.sl (xs.map encLink)]) :=
 (Opens.sliceOf Tryz.underlying64 (sz := 3) (by kernel_rfl) (by decide) (fun _ => rfl) rdLink).mono (by rintro l ⟨xs, _, h⟩; exact ⟨xs, h⟩)
theorem oGap : Opens Tryz.prog 66 (fun l => ∃ n m : Int, l = [rI n, rI m]) := (Opens.struct Tryz.underlying66 (by kernel_rfl) (fun _ l => ∃ n : Int, l = [rI n]) (fun i f hf => by
 rcases i with _ | _ | i <;> simp at hf <;> subst hf <;> exact oInt)).mono (by
 rintro l ⟨ls, h1, h2, rfl⟩
 obtain ⟨a, b, rfl⟩ := len2 h1
 obtain ⟨x, rfl⟩ := h2 0 a rfl
 obtain ⟨y, rfl⟩ := h2 1 b rfl
 exact ⟨x, y, rfl⟩)
theorem rdLoop : Rd 68 encLoop (fun _ => True) := (Opens.struct Tryz.underlying68 (by kernel_rfl) (pick3 (fun _ => True) (fun l => ∃ xs : List Link, l = [.sl (xs.map encLink)]) (fun l => ∃ n m : Int, l = [rI n, rI m]) (fun _ => True)) (fun i f hf => by
 rcases i with _ | _ | i <;> simp at hf <;> subst hf
 ·exact oLinks
 ·exact oGap)).mono (by
 rintro l ⟨ls, h1, h2, rfl⟩
 obtain ⟨a, b, rfl⟩ := len2 h1
 obtain ⟨x, rfl⟩ := h2 0 a rfl
 obtain ⟨y, z, rfl⟩ := h2 1 b rfl
 exact ⟨⟨x, y, z⟩, trivial, rfl⟩)
theorem oLoops : Opens Tryz.prog 26 (fun l => ∃ xs : List ChLoop, l = [.sl (xs.map encLoop)]) :=
 (Opens.sliceOf Tryz.underlying26 (sz := 3) (by kernel_rfl) (by decide) (fun _ => rfl) rdLoop).mono (by rintro l ⟨xs, _, h⟩; exact ⟨xs, h⟩)
theorem rdChains : Rd 28 encChains (fun c => ∀ x ∈ c.reg, kindIn x) := (Opens.struct Tryz.underlying28 (by kernel_rfl) (pick5 (fun _ => True) (fun l => ∃ xs : List Issue, (∀ x ∈ xs, kindIn x) ∧ l = [.sl (xs.map encIssue)]) (fun l => ∃ xs : List Int, l = [.sl (xs.map encI)]) (fun l => ∃ n : Int, l = [rI n]) (fun l => ∃ xs : List ChLoop, l = [.sl (xs.map encLoop)]) (fun _ => True)) (fun i f hf => by
 rcases i with _ | _ | _ | _ | i <;> simp at hf <;> subst hf
 ·exact oReg
 ·exact oInts
 ·exact oInt
 ·exact oLoops)).mono (by
 rintro l ⟨ls, h1, h2, rfl⟩
 obtain ⟨a, b, c, d, rfl⟩ := len4 h1
 obtain ⟨x, hx, rfl⟩ := h2 0 a rfl
 obtain ⟨y, rfl⟩ := h2 1 b rfl
 obtain ⟨z, rfl⟩ := h2 2 c rfl
 obtain ⟨u, rfl⟩ := h2 3 d rfl
 exact ⟨⟨x, y, z, u⟩, hx, rfl⟩)
end Go.Proofs
