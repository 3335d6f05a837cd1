/- Part 30 of the proofs: laws and walks that hold without conditions beyond those that each theorem names. -/
import Derived.Test.YtfbojhlifomnfaaGreatDoorA24
import Derived.Test.YtfbojhlifomnfaaGreatDoorA26
set_option linter.all false
set_option linter.deprecated false
namespace Go.Proofs
open Go Go.Ab
set_option linter.unusedSimpArgs false
variable {G : Nat → Option (List IC)}
theorem SoF.congr {c : Chains} {fv : IC} {so so' : Spot → Bool} (h : SoF G c fv so) (he : ∀ x ∈ spotsOf c, so x = so' x) : SoF G c fv so' := by
 rcases h with ⟨f, caps, h1, h2, h3⟩ | ⟨f, caps, h1, h2, h3⟩
 ·exact .inl ⟨f, caps, h1, h2, fun x hx objs => (h3 x hx objs).mono fun d o ⟨a, b⟩ => ⟨by rw [a, he x hx], b⟩⟩
 ·exact .inr ⟨f, caps, h1, h2, fun x hx objs => (h3 x hx objs).mono fun d o ⟨a, b⟩ => ⟨by rw [a, he x hx], b⟩⟩
theorem loose_c (c : Chains) (D : List (Int × Int)) (B : List (Int × Issue)) (d k : Int) (objs : List DObj) : DCall Tryz.prog G 82 [.one (.im (deskC c D B)), refv d k] objs (fun rr objs' => rr = bv (looseP B ⟨d, k⟩) ∧ objs' = objs) := by
 refine DCall.frame ?_ (by simp) (by simp) objs
 refine DCall_intro Tryz.func82 rfl Tryz.ntmps82 (by simp) rfl ?_
 try simp only [refv]
 simp only [deskC]
 have hs : True := trivial
 repeat' first | (with_reducible first | refine q01 ?_ | refine q11 ?_ | refine q17 ?_) | (with_reducible refine At.fn_ret (by simp -dsimp [hs]; exact rfl) ?_) | (refine DT_regionM (id := 1) (nt := 14) 10 [0,1,3,4] mixed rfl (by kernel_rfl) ?_; simp -dsimp [hs]) | (with_reducible refine DT_regionE [0,1,3,4] ?_; simp -dsimp [hs])
 all_goals try simp -dsimp [hs]
 all_goals try clear hs
 all_goals simp [looseP]
def looseF (c : Chains) (D : List (Int × Int)) : IC := .bf (.func 82) [deskC c D (tkM c.reg c.lets)]
theorem loose_so {c : Chains} (h : OkC c) (D : List (Int × Int)) : SoF G c (looseF c D) (looseR c) :=
 SoF.congr (.inr ⟨82, _, rfl, by simp, fun x _ objs => loose_c (G := G) c D (tkM c.reg c.lets) x.drawing x.dim objs⟩) fun x hx => loose_eq h hx
def SoN (G : Nat → Option (List IC)) (fv : IC) (lo hi : Int) (p : Int → Bool) : Prop :=
 ∃ (f : FuncId) (caps : List IC), fv = .fn (.func f) caps ∧ CallOk Tryz.prog f ∧ ∀ n, lo ≤ n → n ≤ hi → ∀ objs, DCall Tryz.prog G f (iv n :: caps.map fun c => .one (.im c)) objs (fun d o => d = bv (p n) ∧ o = objs)
set_option maxHeartbeats 1000000 in
theorem greatest_c (fv : IC) (p : Int → Bool) (lo hi : Int) (hlo : 0 ≤ lo) (hhi : hi ≤ 2000000000) (hp : SoN G fv lo hi p) (objs : List DObj) : DCall Tryz.prog G 127 [iv lo, iv hi, .one (.im fv)] objs (fun rr objs' => rr = iv (gsI p lo hi) ∧ objs' = objs) := by
 refine DCall.frame ?_ (by simp) (by simp) objs
 refine DCall_intro Tryz.func127 rfl Tryz.ntmps127 (by simp) rfl ?_
 try simp only [iv, iv]
 obtain ⟨f, caps, rfl, hf, hcall⟩ := hp
 have hs : True := trivial
 repeat' first | (with_reducible first | refine q01 ?_ | refine q11 ?_ | refine q12 ?_) | (with_reducible refine DT_regionE [0,1,2,6,7,10,19] ?_; simp -dsimp [hs])
 all_goals try simp -dsimp [hs]
 all_goals try clear hs
 refine DT_loop (ι := { q : Int × Int // lo ≤ q.1 ∧ q.2 ≤ hi ∧ (q.1 ≤ q.2 ∨ q.1 = lo) ∧ gsI p lo hi = gsI p q.1 q.2 }) (fun q => ⟨24, [(0, iv q.1.1), (1, iv q.1.2), (2, .one (.im (.fn (.func f) caps)))], []⟩) (fun q => (q.1.2 - q.1.1).toNat) ⟨(lo, hi), by simp⟩ (Weak.of_keep [0,1,2] (by simp)) ?_
 rintro ⟨⟨a, b⟩, ha, hb, hab, hE⟩
 simp only at ha hb hab hE
 simp only [iv]
 by_cases hlt : a < b
 ·have hst := gsI_step (p := p) hlt
  have hw1 : IntKind.i64.wrap (b - a) = b - a := i64w (by omega) (by omega)
  have hd : (b - a).tdiv 2 = (b - a) / 2 := by rw [Int.tdiv_eq_ediv_of_nonneg (by omega)]
  have hw2 : IntKind.i64.wrap ((b - a) / 2) = (b - a) / 2 := i64w (by omega) (by omega)
  have hw3 : IntKind.i64.wrap (b - (b - a) / 2) = b - (b - a) / 2 := i64w (by omega) (by omega)
  have hw4 : IntKind.i64.wrap (b - (b - a) / 2 - 1) = b - (b - a) / 2 - 1 := i64w (by omega) (by omega)
  have c1 := hcall (b - (b - a) / 2) (by omega) (by omega)
  have hm1 : a < b - (b - a) / 2 := by omega
  have hm2 : b - (b - a) / 2 ≤ b := by omega
  generalize hm : b - (b - a) / 2 = m at *
  cases hq : p m
  ·rw [hq] at c1 hst
   simp only [Bool.false_eq_true, if_false] at hst
   have hs : True := trivial
   repeat' first | (with_reducible first | refine q01 ?_ | refine q04 ?_ | refine q11 ?_ | refine q12 ?_ | refine q14 ?_) | (refine CallE.pure (c1) ?_; try simp -dsimp [hlt, hw1, hd, hw2, hw3, hw4, hm, hf, hs]) | (with_reducible refine DT_regionE [0,1,2,6,7,10,19] ?_; simp -dsimp [hlt, hw1, hd, hw2, hw3, hw4, hm, hf, hs]) | (refine DT_cond rfl (fun h => ?_) (fun h => ?_) <;> (try simp only [nrm] at h) <;> (try exact Bool.noConfusion h))
   all_goals try simp -dsimp [hlt, hw1, hd, hw2, hw3, hw4, hm, hf, hs]
   all_goals try clear hs
   exact At.round ⟨(a, m - 1), by omega, by omega, by omega, hE.trans hst⟩ (by simp; omega) (Weak.of_keep [0,1,2] (by simp))
  ·rw [hq, if_pos rfl] at hst
   rw [hq] at c1
   have hs : True := trivial
   repeat' first | (with_reducible first | refine q01 ?_ | refine q04 ?_ | refine q11 ?_ | refine q12 ?_ | refine q14 ?_) | (refine CallE.pure (c1) ?_; try simp -dsimp [hlt, hw1, hd, hw2, hw3, hw4, hm, hf, hs]) | (with_reducible refine DT_regionE [0,1,2,6,7,10,19] ?_; simp -dsimp [hlt, hw1, hd, hw2, hw3, hw4, hm, hf, hs]) | (refine DT_cond rfl (fun h => ?_) (fun h => ?_) <;> (try simp only [nrm] at h) <;> (try exact Bool.noConfusion h))
   all_goals try simp -dsimp [hlt, hw1, hd, hw2, hw3, hw4, hm, hf, hs]
   all_goals try clear hs
   exact At.round ⟨(m, b), by omega, by omega, by omega, hE.trans hst⟩ (by simp; omega) (Weak.of_keep [0,1,2] (by simp))
 ·have : gsI p a b = a := gsI_end (by omega)
  rw [this] at hE
  have hs : True := trivial
  repeat' first | (with_reducible first | refine q01 ?_ | refine q03 ?_ | refine q06 ?_ | refine q11 ?_ | refine q16 ?_ | refine q17 ?_) | (with_reducible refine At.fn_ret (by simp -dsimp [hlt, hs]; exact rfl) ?_) | (with_reducible refine DT_regionE [0,1,2,6,7,10,19] ?_; simp -dsimp [hlt, hs]) | (refine DT_cond rfl (fun h => ?_) (fun h => ?_) <;> (try simp only [nrm] at h) <;> (try exact Bool.noConfusion h))
  all_goals try simp -dsimp [hlt, hs]
  all_goals try clear hs
  all_goals rw [hE]
theorem shut_c (c : Chains) (D : List (Int × Int)) (n : Int) (h : OkC c) (hl : c.loops.length ≤ 10) (h0 : 0 ≤ n) (h1 : n ≤ 2000000000) (objs : List DObj) : DCall Tryz.prog G 126 [iv n, .one (.im (.ip [deskC c D (tkM c.reg c.lets)]))] objs (fun rr objs' => rr = bv (allT c (looseR c) n) ∧ objs' = objs) := by
 refine DCall.frame ?_ (by simp) (by simp) objs
 refine DCall_intro Tryz.func126 rfl Tryz.ntmps126 (by simp) rfl ?_
 try simp only [iv]
 have c1 := pwrong_c (G := G) c D (looseF c D) (looseR c) n 0 (Nat.zero_le _) hl h (loose_so h D) h0 h1
 have hE := allT_find c (looseR c) n
 generalize allT c (looseR c) n = r at *
 generalize findW c (looseR c) n 0 = m at *
 simp only [deskC, looseF, Int.natCast_zero] at c1
 simp only [deskC]
 by_cases hm : m = c.loops.length
 ·have hr : r = true := hE.2 hm
  have hm' : (m : Int) = (c.loops.length : Int) := by omega
  have hs : True := trivial
  repeat' first | (with_reducible first | refine q01 ?_ | refine q11 ?_ | refine q17 ?_) | (with_reducible refine At.fn_ret (by simp -dsimp [hm', hs]; exact rfl) ?_) | (refine QCall_pure (c1) ?_; try simp -dsimp [hm', hs]) | (refine DT_regionM (id := 1) (nt := 16) 13 [0,1,3] mixed rfl (by kernel_rfl) ?_; simp -dsimp [hm', hs]) | (with_reducible refine DT_regionE [0,1,3] ?_; simp -dsimp [hm', hs])
  all_goals try simp -dsimp [hm', hs]
  all_goals try clear hs
  all_goals simp [hr]
 ·have hr : r = false := by
   cases hq : r with
   | false => rfl
   | true => exact absurd (hE.1 hq) hm
  have hm' : ¬ (m : Int) = (c.loops.length : Int) := by omega
  have hs : True := trivial
  repeat' first | (with_reducible first | refine q01 ?_ | refine q11 ?_ | refine q17 ?_) | (with_reducible refine At.fn_ret (by simp -dsimp [hm, hm', hs]; exact rfl) ?_) | (refine QCall_pure (c1) ?_; try simp -dsimp [hm, hm', hs]) | (refine DT_regionM (id := 1) (nt := 16) 13 [0,1,3] mixed rfl (by kernel_rfl) ?_; simp -dsimp [hm, hm', hs]) | (with_reducible refine DT_regionE [0,1,3] ?_; simp -dsimp [hm, hm', hs])
  all_goals try simp -dsimp [hm, hm', hs]
  all_goals try clear hs
  all_goals simp [hr]
theorem shut_so {c : Chains} (D : List (Int × Int)) (h : OkC c) (hl : c.loops.length ≤ 10) : SoN G (.fn (.func 126) [.ip [deskC c D (tkM c.reg c.lets)]]) 0 maxG (allT c (looseR c)) :=
 ⟨126, _, rfl, by simp, fun n h0 h1 objs => shut_c (G := G) c D n h hl h0 (by unfold maxG at h1; omega) objs⟩
def gradeV (c : Chains) : Int := if hasG c then gradeN c else 0
theorem grade_c (c : Chains) (D : List (Int × Int)) (h : OkC c) (hl : c.loops.length ≤ 10) (objs : List DObj) : DCall Tryz.prog G 80 [.one (.im (deskC c D (tkM c.reg c.lets)))] objs (fun rr objs' => rr = .tup [iv (gradeV c), bv (hasG c)] ∧ objs' = objs) := by
 refine DCall.frame ?_ (by simp) (by simp) objs
 refine DCall_intro Tryz.func80 rfl Tryz.ntmps80 (by simp) rfl ?_
 try simp only [iv]
 have c1 := shut_c (G := G) c D 0 h hl (by decide) (by decide)
 have c2 := greatest_c (G := G) _ _ 0 maxG (by decide) (by decide) (shut_so (G := G) D h hl)
 have hH : hasG c = allT c (looseR c) 0 := rfl
 have hN : gradeN c = gsI (allT c (looseR c)) 0 maxG := rfl
 rw [← hH] at c1
 rw [← hN] at c2
 simp only [deskC, maxG] at c1 c2
 simp only [deskC, gradeV]
 clear hH hN
 generalize gradeN c = N at *
 cases hq : hasG c
 ·rw [hq] at c1
  have hs : True := trivial
  repeat' first | (with_reducible first | refine q01 ?_ | refine q02 ?_ | refine q11 ?_ | refine q17 ?_) | (with_reducible refine At.fn_ret (by simp -dsimp [hs]; exact rfl) ?_) | (refine CallE.thaw (c1) ?_ ?_ ?_; (focus (simp; done)); (focus (simp; done)); try simp -dsimp [hs]) | (with_reducible refine DT_regionE [0,1,2,3,4,8] ?_; simp -dsimp [hs]) | (refine DT_cond rfl (fun h => ?_) (fun h => ?_) <;> (try simp only [nrm] at h) <;> (try exact Bool.noConfusion h))
  all_goals try simp -dsimp [hs]
  all_goals try clear hs
 ·rw [hq] at c1
  have hs : True := trivial
  repeat' first | (with_reducible first | refine q01 ?_ | refine q11 ?_ | refine q14 ?_ | refine q17 ?_) | (with_reducible refine At.fn_ret (by simp -dsimp [hs]; exact rfl) ?_) | (refine CallE.thaw (c1) ?_ ?_ ?_; (focus (simp; done)); (focus (simp; done)); try simp -dsimp [hs]) | (refine CallE.thaw (c2) ?_ ?_ ?_; (focus (simp; done)); (focus (simp; done)); try simp -dsimp [hs]) | (with_reducible refine DT_regionE [0,1,2,3,4,8] ?_; simp -dsimp [hs]) | (refine DT_cond rfl (fun h => ?_) (fun h => ?_) <;> (try simp only [nrm] at h) <;> (try exact Bool.noConfusion h))
  all_goals try simp -dsimp [hs]
  all_goals try clear hs
def gradeE (c : Chains) : Int := if chainsE c ≠ 0 then chainsE c else if hasG c then 0 else 6
def gradeR (c : Chains) : Int := if chainsE c = 0 then gradeV c else 0
theorem pGrade_c (c : Chains) (hG : sheetG G) (hC : chainG G) (hsm : SmallC c) (objs : List DObj) : DCall Tryz.prog G 28 [chv c] objs (fun rr objs' => rr = .tup [iv (gradeR c), iv (gradeE c)] ∧ objs' = objs) := by
 refine DCall.frame ?_ (by simp) (by simp) objs
 refine DCall_intro Tryz.func28 rfl Tryz.ntmps28 (by simp) rfl ?_
 try simp only [chv]
 have c1 := chOpen_c c hG hC hsm
 by_cases h00 : chainsE c = 0
 ·have hOk := okC h00
  have c2 := grade_c (G := G) c (cntD c) hOk hsm.2.2.1
  rw [h00] at c1
  rw [gradeR, if_pos h00, gradeE, if_neg (by simp [h00]), gradeV]
  rw [gradeV] at c2
  simp only [deskR, h00, if_true, deskC] at c1
  simp only [deskC] at c2
  generalize gradeN c = N at *
  cases hq : hasG c
  all_goals simp only [hq] at c2
  ·have hs : True := trivial
   repeat' first | (with_reducible first | refine q01 ?_ | refine q02 ?_ | refine q11 ?_ | refine q14 ?_ | refine q17 ?_) | (with_reducible refine At.fn_ret (by simp -dsimp [hs]; exact rfl) ?_) | (refine CallE.pure (c1) ?_; try simp -dsimp [hs]) | (refine CallE.pure (c2) ?_; try simp -dsimp [hs]) | (with_reducible refine DT_regionE [0,1,2,3,4,5,6,7,14,22] ?_; simp -dsimp [hs]) | (refine DT_cond rfl (fun h => ?_) (fun h => ?_) <;> (try simp only [nrm] at h) <;> (try exact Bool.noConfusion h))
   all_goals try simp -dsimp [hs]
   all_goals try clear hs
  ·have hs : True := trivial
   repeat' first | (with_reducible first | refine q01 ?_ | refine q11 ?_ | refine q14 ?_ | refine q17 ?_) | (with_reducible refine At.fn_ret (by simp -dsimp [hs]; exact rfl) ?_) | (refine CallE.pure (c1) ?_; try simp -dsimp [hs]) | (refine CallE.pure (c2) ?_; try simp -dsimp [hs]) | (with_reducible refine DT_regionE [0,1,2,3,4,5,6,7,14,22] ?_; simp -dsimp [hs]) | (refine DT_cond rfl (fun h => ?_) (fun h => ?_) <;> (try simp only [nrm] at h) <;> (try exact Bool.noConfusion h))
   all_goals try simp -dsimp [hs]
   all_goals try clear hs
 ·obtain ⟨X, hX⟩ := deskR_one c
  rw [hX] at c1
  rw [gradeR, if_neg h00, gradeE, if_pos h00]
  have hs : True := trivial
  repeat' first | (with_reducible first | refine q01 ?_ | refine q02 ?_ | refine q11 ?_ | refine q17 ?_) | (with_reducible refine At.fn_ret (by simp -dsimp [h00, hs]; exact rfl) ?_) | (refine CallE.pure (c1) ?_; try simp -dsimp [h00, hs]) | (with_reducible refine DT_regionE [0,1,2,3,4,5,6,7,14,22] ?_; simp -dsimp [h00, hs]) | (refine DT_cond rfl (fun h => ?_) (fun h => ?_) <;> (try simp only [nrm] at h) <;> (try exact Bool.noConfusion h))
  all_goals try simp -dsimp [h00, hs]
  all_goals try clear hs
def proofOk (c : Chains) : Bool := hasG c && decide (gradeN c ≠ maxG)
def proofE (c : Chains) : Int := if chainsE c ≠ 0 then chainsE c else if proofOk c then 0 else 6
def proofL (c : Chains) : Nat := findW c (looseR c) (gradeN c + 1) 0
def proofX (c : Chains) : ChLoop := lpAt c (proofL c : Int)
def proofS (c : Chains) : List Int := endsL (proofX c).links (szT c (looseR c) (gradeN c + 1) (proofX c)) (!decide (hiT c (looseR c) (gradeN c + 1) (proofX c) ≤ (proofX c).hi))
def prL (c : Chains) : Int := if proofE c = 0 then (proofL c : Int) else 0
def prS (c : Chains) : List Int := if proofE c = 0 then proofS c else []
theorem proof_lt {c : Chains} (hOk : OkC c) (h : proofOk c = true) : proofL c < c.loops.length ∧ 0 ≤ gradeN c + 1 ∧ gradeN c + 1 ≤ 1000000000 := by
 simp only [proofOk, Bool.and_eq_true, decide_eq_true_eq] at h
 obtain ⟨h1, h2, h3, h4⟩ := grade_spec hOk h.1
 have h5 := h4 (gradeN c + 1) (by omega) (by have := h.2; omega)
 obtain ⟨_, k2, _, _⟩ := findW_spec c (looseR c) (gradeN c + 1) _ 0 rfl (Nat.zero_le _)
 refine ⟨?_, by omega, by have := h.2; unfold maxG at h3 this; omega⟩
 refine Nat.lt_of_le_of_ne k2 fun e => ?_
 rw [(allT_find c (looseR c) (gradeN c + 1)).2 e] at h5
 cases h5
set_option maxHeartbeats 1000000 in
theorem pProof_c (c : Chains) (hG : sheetG G) (hC : chainG G) (hsm : SmallC c) (objs : List DObj) : DCall Tryz.prog G 30 [chv c] objs (fun rr objs' => rr = .tup [iv (prL c), isv (prS c), iv (proofE c)] ∧ objs' = objs) := by
 refine DCall.frame ?_ (by simp) (by simp) objs
 refine DCall_intro Tryz.func30 rfl Tryz.ntmps30 (by simp) rfl ?_
 try simp only [chv]
 have c1 := chOpen_c c hG hC hsm
 by_cases h00 : chainsE c = 0
 ·have hOk := okC h00
  have c2 := grade_c (G := G) c (cntD c) hOk hsm.2.2.1
  rw [h00] at c1
  simp only [deskR, h00, if_true, deskC] at c1
  rw [gradeV] at c2
  cases hp : proofOk c
  ·have hE : proofE c = 6 := by rw [proofE, if_neg (by simp [h00]), hp]; rfl
   rw [prL, prS, hE, if_neg (by decide), if_neg (by decide)]
   simp only [deskC] at c2
   have hp' : hasG c = false ∨ hasG c = true ∧ gradeN c = maxG := by
    simp only [proofOk] at hp
    cases hq : hasG c
    ·exact .inl rfl
    ·rw [hq, Bool.true_and] at hp
     exact .inr ⟨rfl, by simpa using hp⟩
   rcases hp' with hq | ⟨hq, hM⟩
   ·simp only [hq] at c2
    have hs : True := trivial
    repeat' first | (with_reducible first | refine q01 ?_ | refine q02 ?_ | refine q11 ?_ | refine q14 ?_ | refine q17 ?_) | (with_reducible refine At.fn_ret (by simp -dsimp [hs]; exact rfl) ?_) | (refine CallE.pure (c1) ?_; try simp -dsimp [hs]) | (refine CallE.pure (c2) ?_; try simp -dsimp [hs]) | (with_reducible refine DT_regionE [0,1,2,3,4,5,6,7,8,9,10,17,29,58] ?_; simp -dsimp [hs]) | (refine DT_cond rfl (fun h => ?_) (fun h => ?_) <;> (try simp only [nrm] at h) <;> (try exact Bool.noConfusion h))
    all_goals try simp -dsimp [hs]
    all_goals try clear hs
   ·simp only [hq, hM, maxG] at c2
    have hs : True := trivial
    repeat' first | (with_reducible first | refine q01 ?_ | refine q02 ?_ | refine q11 ?_ | refine q14 ?_ | refine q17 ?_) | (with_reducible refine At.fn_ret (by simp -dsimp [hs]; exact rfl) ?_) | (refine CallE.pure (c1) ?_; try simp -dsimp [hs]) | (refine CallE.pure (c2) ?_; try simp -dsimp [hs]) | (with_reducible refine DT_regionE [0,1,2,3,4,5,6,7,8,9,10,17,29,58] ?_; simp -dsimp [hs]) | (refine DT_cond rfl (fun h => ?_) (fun h => ?_) <;> (try simp only [nrm] at h) <;> (try exact Bool.noConfusion h))
    all_goals try simp -dsimp [hs]
    all_goals try clear hs
  ·have hE : proofE c = 0 := by rw [proofE, if_neg (by simp [h00]), hp]; rfl
   rw [prL, prS, hE, if_pos rfl, if_pos rfl]
   obtain ⟨hL, hg0, hg1⟩ := proof_lt hOk hp
   have hq : hasG c = true ∧ gradeN c ≠ 1000000000 := by
    have := hp
    simp only [proofOk, Bool.and_eq_true, decide_eq_true_eq, maxG] at this
    exact ⟨this.1, of_decide_eq_true this.2⟩
   have c3 := pwrong_c (G := G) c (cntD c) (looseF c (cntD c)) (looseR c) (gradeN c + 1) 0 (Nat.zero_le _) hsm.2.2.1 hOk (loose_so hOk _) hg0 (by omega)
   have hLE : findW c (looseR c) (gradeN c + 1) 0 = proofL c := rfl
   rw [hLE] at c3
   have c4 := psizesG_c (G := G) c (cntD c) (looseF c (cntD c)) (looseR c) (gradeN c + 1) (proofL c) hL hOk (loose_so hOk _) hg0 (by omega)
   obtain ⟨hsl, hsd⟩ := szT_ok hOk (so := looseR c) hg0 (List.getElem_mem hL)
   have hln := (hOk.gap c.loops[proofL c] (List.getElem_mem hL)).1
   have c5 := fun high => pend_c (G := G) c (cntD c) (tkM c.reg c.lets) (proofL c) hL (szT c (looseR c) (gradeN c + 1) c.loops[proofL c]) high (by omega) hsl hsd
   have hX : proofX c = c.loops[proofL c] := lpAt_at hL
   have hS : proofS c = endsL c.loops[proofL c].links (szT c (looseR c) (gradeN c + 1) c.loops[proofL c]) (!decide (endS c.loops[proofL c].links (szT c (looseR c) (gradeN c + 1) c.loops[proofL c]) true ≤ c.loops[proofL c].hi)) := by rw [proofS, hX]; rfl
   have hx : c.loops[proofL c]? = some c.loops[proofL c] := by simp [hL]
   have hw : IntKind.i64.wrap (gradeN c + 1) = gradeN c + 1 := i64w (by omega) (by omega)
   rw [hS]
   clear hS hX hLE
   have c51 := c5 true
   have c50 := c5 false
   clear c5
   generalize szT c (looseR c) (gradeN c + 1) c.loops[proofL c] = sz at *
   generalize endS c.loops[proofL c].links sz true = hi at *
   generalize endS c.loops[proofL c].links sz false = lo at *
   simp only [hq.1, if_true] at c2
   simp only [deskC, looseF, Int.natCast_zero] at c2 c3 c4 c50 c51
   simp only [isv] at c50 c51
   have hq2 := hq.2
   generalize proofL c = L at *
   generalize gradeN c = N at *
   by_cases hh : hi ≤ c.loops[L].hi
   ·have hs : True := trivial
    repeat' first | (with_reducible first | refine q01 ?_ | refine q11 ?_ | refine q14 ?_ | refine q17 ?_) | (with_reducible refine At.fn_ret (by simp -dsimp [hw, hq2, hx, hL, hh, hs]; exact rfl) ?_) | (refine CallE.pure (c1) ?_; try simp -dsimp [hw, hq2, hx, hL, hh, hs]) | (refine CallE.pure (c2) ?_; try simp -dsimp [hw, hq2, hx, hL, hh, hs]) | (refine CallE.pure (c3) ?_; try simp -dsimp [hw, hq2, hx, hL, hh, hs]) | (refine CallE.pure (c4) ?_; try simp -dsimp [hw, hq2, hx, hL, hh, hs]) | (refine CallE.pure (c51) ?_; try simp -dsimp [hw, hq2, hx, hL, hh, hs]) | (refine CallE.pure (c50) ?_; try simp -dsimp [hw, hq2, hx, hL, hh, hs]) | (with_reducible refine DT_regionE [0,1,2,3,4,5,6,7,8,9,10,17,29,58] ?_; simp -dsimp [hw, hq2, hx, hL, hh, hs]) | (refine DT_cond rfl (fun h => ?_) (fun h => ?_) <;> (try simp only [nrm] at h) <;> (try exact Bool.noConfusion h))
    all_goals try simp -dsimp [hw, hq2, hx, hL, hh, hs]
    all_goals try clear hs
    all_goals simp [hh]
   ·have hs : True := trivial
    repeat' first | (with_reducible first | refine q01 ?_ | refine q11 ?_ | refine q14 ?_ | refine q17 ?_) | (with_reducible refine At.fn_ret (by simp -dsimp [hw, hq2, hx, hL, hh, hs]; exact rfl) ?_) | (refine CallE.pure (c1) ?_; try simp -dsimp [hw, hq2, hx, hL, hh, hs]) | (refine CallE.pure (c2) ?_; try simp -dsimp [hw, hq2, hx, hL, hh, hs]) | (refine CallE.pure (c3) ?_; try simp -dsimp [hw, hq2, hx, hL, hh, hs]) | (refine CallE.pure (c4) ?_; try simp -dsimp [hw, hq2, hx, hL, hh, hs]) | (refine CallE.pure (c51) ?_; try simp -dsimp [hw, hq2, hx, hL, hh, hs]) | (with_reducible refine DT_regionE [0,1,2,3,4,5,6,7,8,9,10,17,29,58] ?_; simp -dsimp [hw, hq2, hx, hL, hh, hs]) | (refine DT_cond rfl (fun h => ?_) (fun h => ?_) <;> (try simp only [nrm] at h) <;> (try exact Bool.noConfusion h))
    all_goals try simp -dsimp [hw, hq2, hx, hL, hh, hs]
    all_goals try clear hs
    all_goals simp [hh]
 ·obtain ⟨X, hX⟩ := deskR_one c
  rw [hX] at c1
  have hE : proofE c = chainsE c := by rw [proofE, if_pos h00]
  rw [prL, prS, hE, if_neg h00, if_neg h00]
  have hs : True := trivial
  repeat' first | (with_reducible first | refine q01 ?_ | refine q02 ?_ | refine q11 ?_ | refine q17 ?_) | (with_reducible refine At.fn_ret (by simp -dsimp [h00, hs]; exact rfl) ?_) | (refine CallE.pure (c1) ?_; try simp -dsimp [h00, hs]) | (with_reducible refine DT_regionE [0,1,2,3,4,5,6,7,8,9,10,17,29,58] ?_; simp -dsimp [h00, hs]) | (refine DT_cond rfl (fun h => ?_) (fun h => ?_) <;> (try simp only [nrm] at h) <;> (try exact Bool.noConfusion h))
  all_goals try simp -dsimp [h00, hs]
  all_goals try clear hs
end Go.Proofs
namespace Go.Proofs
open Go Go.Ab
set_option linter.unusedSimpArgs false
variable {G : Nat → Option (List IC)}
attribute [simp] permL reO gones noLoop nilV nilX ZK
theorem indexSp_c (l : List Spot) (v : Spot) (hl : l.length < 1000000) (objs : List DObj) : DCall Tryz.prog G 130 [spotsv l, refv v.drawing v.dim] objs (fun rr objs' => rr = iv (fidx (fun x => decide (v = x)) l) ∧ objs' = objs) := by
 refine DCall.frame ?_ (by simp) (by simp) objs
 refine DCall_intro Tryz.func130 rfl Tryz.ntmps130 (by simp) rfl ?_
 try simp only [refv]
 simp only [spotsv, refv]
 have hs : True := trivial
 repeat' first | (with_reducible first | refine q01 ?_ | refine q11 ?_ | refine q12 ?_) | (with_reducible refine DT_regionE [0,1,3,4,5,7,8,9,16] ?_; simp -dsimp [hs])
 all_goals try simp -dsimp [hs]
 all_goals try clear hs
 refine DT_loop (ι := { k : Nat // k ≤ l.length ∧ ∀ j x, j < k → l[j]? = some x → decide (v = x) = false }) (fun i => ⟨19, [(0, spotsv l), (3, .one (.ptr 0 0)), (7, iv (l.length : Int)), (8, iv (i.1 : Int))], [.row [.im (rI v.drawing), .im (rI v.dim)]]⟩) (fun i => l.length - i.1) ⟨0, by simp⟩ (Weak.of_keep [0,3,7,8] (by simp)) ?_
 rintro ⟨i, hi, hno⟩
 simp only [iv, spotsv]
 by_cases hlt : i < l.length
 ·have hx0 : l[i]? = some l[i] := by simp [hlt]
  have hw : IntKind.i64.wrap ((i : Int) + 1) = ((i + 1 : Nat) : Int) := i64w (by omega) (by omega)
  generalize hx : l[i] = x at *
  have hiff : v = x ↔ v.drawing = x.drawing ∧ v.dim = x.dim := ⟨fun e => by rw [e]; exact ⟨rfl, rfl⟩, fun ⟨a, b⟩ => by cases v; cases x; simp_all⟩
  have hs : True := trivial
  repeat' first | (with_reducible first | refine q01 ?_ | refine q02 ?_ | refine q04 ?_ | refine q05 ?_ | refine q11 ?_ | refine q12 ?_ | refine q14 ?_ | refine q17 ?_) | (with_reducible refine At.fn_ret (by simp -dsimp [hx, hw, hlt, hs]; exact rfl) ?_) | (refine DT_regionM (id := 4) (nt := 19) 6 [0,1,3,4,5,7,8,9,16] mixed rfl (by kernel_rfl) ?_; simp -dsimp [hx, hw, hlt, hs]) | (with_reducible refine DT_regionE [0,1,3,4,5,7,8,9,16] ?_; simp -dsimp [hx, hw, hlt, hs]) | (refine DT_cond rfl (fun h => ?_) (fun h => ?_) <;> (try simp only [nrm] at h) <;> (try exact Bool.noConfusion h))
  all_goals try simp -dsimp [hx, hw, hlt, hs]
  all_goals try clear hs
  all_goals first
   | exact (fidx_yes hx0 (by rw [decide_eq_true_iff, hiff]; omega) hno).symm
   | exact At.round ⟨i + 1, by omega, fun j y hj hjx => by
    by_cases e : j = i
    ·subst e; rw [hx0] at hjx; cases hjx; rw [decide_eq_false_iff_not, hiff]; omega
    ·exact hno j y (by omega) hjx⟩ (by simp; omega) (Weak.of_keep [0,3,7,8] (by simp))
 ·have hs : True := trivial
  repeat' first | (with_reducible first | refine q01 ?_ | refine q03 ?_ | refine q06 ?_ | refine q11 ?_ | refine q16 ?_ | refine q17 ?_) | (with_reducible refine At.fn_ret (by simp -dsimp [hlt, hs]; exact rfl) ?_) | (with_reducible refine DT_regionE [0,1,3,4,5,7,8,9,16] ?_; simp -dsimp [hlt, hs]) | (refine DT_cond rfl (fun h => ?_) (fun h => ?_) <;> (try simp only [nrm] at h) <;> (try exact Bool.noConfusion h))
  all_goals try simp -dsimp [hlt, hs]
  all_goals try clear hs
  exact (fidx_no fun j x hjx => hno j x (by have := lt_of_getElem? hjx; omega) hjx).symm
theorem containsSp_c (l : List Spot) (v : Spot) (hl : l.length < 1000000) (objs : List DObj) : DCall Tryz.prog G 87 [spotsv l, refv v.drawing v.dim] objs (fun rr objs' => rr = bv (inS l v) ∧ objs' = objs) := by
 refine DCall.frame ?_ (by simp) (by simp) objs
 refine DCall_intro Tryz.func87 rfl Tryz.ntmps87 (by simp) rfl ?_
 try simp only [refv]
 have hc := indexSp_c (G := G) l v hl
 simp only [spotsv, refv] at hc
 simp only [spotsv, refv]
 have hs : True := trivial
 repeat' first | (with_reducible first | refine q01 ?_ | refine q11 ?_ | refine q17 ?_) | (with_reducible refine At.fn_ret (by simp -dsimp [hs]; exact rfl) ?_) | (refine CallE.pure (hc) ?_; try simp -dsimp [hs]) | (with_reducible refine DT_regionE [0,1,3,4] ?_; simp -dsimp [hs])
 all_goals try simp -dsimp [hs]
 all_goals try clear hs
 have h1 := fidx_nonneg (fun x => decide (v = x)) l
 rw [h1, Bool.eq_iff_iff]
 simp [inS]
theorem fewF_c (l : List Spot) (v : Spot) (hl : l.length < 1000000) (objs : List DObj) : DCall Tryz.prog G 86 [refv v.drawing v.dim, .one (.im (.ip [.sl (l.map encSpot)]))] objs (fun rr objs' => rr = bv (inS l v) ∧ objs' = objs) := by
 refine DCall.frame ?_ (by simp) (by simp) objs
 refine DCall_intro Tryz.func86 rfl Tryz.ntmps86 (by simp) rfl ?_
 try simp only [refv]
 have hc := containsSp_c (G := G) l v hl
 simp only [spotsv, refv] at hc
 have hs : True := trivial
 repeat' first | (with_reducible first | refine q01 ?_ | refine q11 ?_ | refine q17 ?_) | (with_reducible refine At.fn_ret (by simp -dsimp [hs]; exact rfl) ?_) | (refine CallE.pure (hc) ?_; try simp -dsimp [hs]) | (with_reducible refine DT_regionE [0,1,2,3] ?_; simp -dsimp [hs])
 all_goals try simp -dsimp [hs]
 all_goals try clear hs
def fewF (l : List Spot) : IC := .fn (.func 86) [.ip [.sl (l.map encSpot)]]
theorem few_so (c : Chains) {l : List Spot} (hl : l.length < 1000000) : SoF G c (fewF l) (inS l) := .inl ⟨86, _, rfl, by simp, fun x _ objs => fewF_c (G := G) l x hl objs⟩
def cmpL : List Spot → List Spot → Int
 | [], [] => 0
 | [], _ :: _ => -1
 | _ :: _, [] => 1
 | a :: l, b :: m => if ordS a b ≠ 0 then ordS a b else cmpL l m
theorem ordS_zero {a b : Spot} : ordS a b = 0 ↔ a = b := by
 have h1 : a = b ↔ a.drawing = b.drawing ∧ a.dim = b.dim := ⟨fun e => by rw [e]; exact ⟨rfl, rfl⟩, fun ⟨p, q⟩ => by cases a; cases b; simp_all⟩
 rw [h1]
 unfold ordS cmpI orI' orI' orI'
 repeat' split
 all_goals omega
theorem cmpL_lt : ∀ {a b : List Spot}, a.length = b.length → (cmpL a b < 0 ↔ lexB a b = true)
 | [], [], _ => by simp [cmpL, lexB]
 | [], _ :: _, h => by simp at h
 | _ :: _, [], h => by simp at h
 | x :: a, y :: b, h => by
   rw [cmpL, lexB]
   by_cases e : x = y
   ·have h0 : ordS x y = 0 := ordS_zero.2 e
    rw [if_neg (by simp [h0]), if_pos e]
    exact cmpL_lt (by simpa using h)
   ·have h0 : ordS x y ≠ 0 := fun h => e (ordS_zero.1 h)
    rw [if_pos h0, if_neg e, ordS_lt]
set_option maxHeartbeats 1000000 in
theorem cmpL_c (a b : List Spot) (ha : a.length < 1000000) (hb : b.length < 1000000) (objs : List DObj) : DCall Tryz.prog G 84 [spotsv a, spotsv b, .one (.im (.fn (.func 85) []))] objs (fun rr objs' => rr = iv (cmpL a b) ∧ objs' = objs) := by
 refine DCall.frame ?_ (by simp) (by simp) objs
 refine DCall_intro Tryz.func84 rfl Tryz.ntmps84 (by simp) rfl ?_
 try simp only [iv]
 simp only [spotsv]
 have hs : True := trivial
 repeat' first | (with_reducible first | refine q01 ?_ | refine q11 ?_ | refine q12 ?_) | (with_reducible refine DT_regionE [0,1,2,6,7,8,9,10,11,12,13,14,21,31,38] ?_; simp -dsimp [hs])
 all_goals try simp -dsimp [hs]
 all_goals try clear hs
 refine DT_loop (ι := { k : Nat // k ≤ a.length ∧ k ≤ b.length ∧ cmpL a b = cmpL (a.drop k) (b.drop k) }) (fun i => ⟨39, [(0, spotsv a), (1, spotsv b), (2, .one (.im (.fn (.func 85) []))), (11, spotsv a), (12, iv (a.length : Int)), (13, iv (i.1 : Int))], []⟩) (fun i => a.length - i.1) ⟨0, by simp⟩ (Weak.of_keep [0,1,2,11,12,13] (by simp)) ?_
 rintro ⟨k, hk, hkb, hE⟩
 simp only [iv, spotsv]
 by_cases hlt : k < a.length
 ·have hx : a[k]? = some a[k] := by simp [hlt]
  by_cases hltb : k < b.length
  ·have hy : b[k]? = some b[k] := by simp [hltb]
   have hw : IntKind.i64.wrap ((k : Int) + 1) = ((k + 1 : Nat) : Int) := i64w (by omega) (by omega)
   rw [List.drop_eq_getElem_cons hlt, List.drop_eq_getElem_cons hltb, cmpL] at hE
   generalize hxe : a[k] = x at *
   generalize hye : b[k] = y at *
   have c1 := order_c (G := G) x y
   have hnb : ¬ (b.length : Int) ≤ (k : Int) := by omega
   simp only [refv] at c1
   generalize ordS x y = r at *
   by_cases hr : r = 0
   ·rw [if_neg (by simp [hr])] at hE
    have hs : True := trivial
    repeat' first | (with_reducible first | refine q01 ?_ | refine q04 ?_ | refine q11 ?_ | refine q12 ?_ | refine q14 ?_) | (refine CallE.pure (c1) ?_; try simp -dsimp [hx, hy, hxe, hye, hlt, hltb, hw, hnb, hr, hs]) | (with_reducible refine DT_regionE [0,1,2,6,7,8,9,10,11,12,13,14,21,31,38] ?_; simp -dsimp [hx, hy, hxe, hye, hlt, hltb, hw, hnb, hr, hs]) | (refine DT_cond rfl (fun h => ?_) (fun h => ?_) <;> (try simp only [nrm] at h) <;> (try exact Bool.noConfusion h))
    all_goals try simp -dsimp [hx, hy, hxe, hye, hlt, hltb, hw, hnb, hr, hs]
    all_goals try clear hs
    all_goals exact At.round ⟨k + 1, by omega, by omega, hE⟩ (by simp; omega) (Weak.of_drop [0,1,2,11,12,13] 0 (by simp) (by simp) (by simp))
   ·rw [if_pos hr] at hE
    have hs : True := trivial
    repeat' first | (with_reducible first | refine q01 ?_ | refine q02 ?_ | refine q05 ?_ | refine q11 ?_ | refine q12 ?_ | refine q14 ?_ | refine q17 ?_) | (with_reducible refine At.fn_ret (by simp -dsimp [hx, hy, hxe, hye, hlt, hltb, hw, hnb, hr, hs]; exact rfl) ?_) | (refine CallE.pure (c1) ?_; try simp -dsimp [hx, hy, hxe, hye, hlt, hltb, hw, hnb, hr, hs]) | (with_reducible refine DT_regionE [0,1,2,6,7,8,9,10,11,12,13,14,21,31,38] ?_; simp -dsimp [hx, hy, hxe, hye, hlt, hltb, hw, hnb, hr, hs]) | (refine DT_cond rfl (fun h => ?_) (fun h => ?_) <;> (try simp only [nrm] at h) <;> (try exact Bool.noConfusion h))
    all_goals try simp -dsimp [hx, hy, hxe, hye, hlt, hltb, hw, hnb, hr, hs]
    all_goals try clear hs
    all_goals rw [hE]
  ·have hyb : (b.length : Int) ≤ (k : Int) := by omega
   have hb0 : b.drop k = [] := List.drop_eq_nil_of_le (by omega)
   rw [List.drop_eq_getElem_cons hlt, hb0, cmpL] at hE
   have hs : True := trivial
   repeat' first | (with_reducible first | refine q01 ?_ | refine q02 ?_ | refine q05 ?_ | refine q11 ?_ | refine q12 ?_ | refine q14 ?_ | refine q17 ?_) | (with_reducible refine At.fn_ret (by simp -dsimp [hx, hlt, hltb, hyb, hs]; exact rfl) ?_) | (with_reducible refine DT_regionE [0,1,2,6,7,8,9,10,11,12,13,14,21,31,38] ?_; simp -dsimp [hx, hlt, hltb, hyb, hs]) | (refine DT_cond rfl (fun h => ?_) (fun h => ?_) <;> (try simp only [nrm] at h) <;> (try exact Bool.noConfusion h))
   all_goals try simp -dsimp [hx, hlt, hltb, hyb, hs]
   all_goals try clear hs
   all_goals rw [hE]
 ·have ha0 : a.drop k = [] := List.drop_eq_nil_of_le (by omega)
  by_cases hltb : k < b.length
  ·have hlb : (a.length : Int) < (b.length : Int) := by omega
   rw [ha0, List.drop_eq_getElem_cons hltb, cmpL] at hE
   have hs : True := trivial
   repeat' first | (with_reducible first | refine q01 ?_ | refine q02 ?_ | refine q03 ?_ | refine q06 ?_ | refine q11 ?_ | refine q16 ?_ | refine q17 ?_) | (with_reducible refine At.fn_ret (by simp -dsimp [hlt, hltb, hlb, hs]; exact rfl) ?_) | (with_reducible refine DT_regionE [0,1,2,6,7,8,9,10,11,12,13,14,21,31,38] ?_; simp -dsimp [hlt, hltb, hlb, hs]) | (refine DT_cond rfl (fun h => ?_) (fun h => ?_) <;> (try simp only [nrm] at h) <;> (try exact Bool.noConfusion h))
   all_goals try simp -dsimp [hlt, hltb, hlb, hs]
   all_goals try clear hs
   all_goals rw [hE]
  ·have hlb : ¬ (a.length : Int) < (b.length : Int) := by omega
   rw [ha0, List.drop_eq_nil_of_le (by omega), cmpL] at hE
   have hs : True := trivial
   repeat' first | (with_reducible first | refine q01 ?_ | refine q03 ?_ | refine q06 ?_ | refine q11 ?_ | refine q14 ?_ | refine q16 ?_ | refine q17 ?_) | (with_reducible refine At.fn_ret (by simp -dsimp [hlt, hltb, hlb, hs]; exact rfl) ?_) | (with_reducible refine DT_regionE [0,1,2,6,7,8,9,10,11,12,13,14,21,31,38] ?_; simp -dsimp [hlt, hltb, hlb, hs]) | (refine DT_cond rfl (fun h => ?_) (fun h => ?_) <;> (try simp only [nrm] at h) <;> (try exact Bool.noConfusion h))
   all_goals try simp -dsimp [hlt, hltb, hlb, hs]
   all_goals try clear hs
   all_goals rw [hE]
end Go.Proofs
namespace Go.Proofs
open Go Go.Ab
theorem bit_at' (s i : Nat) : IntKind.i64.wrap ((BitVec.ofInt 64 ((s : Int).fdiv (2 ^ i)) &&& BitVec.ofInt 64 1).toNat : Int) = if s.testBit i = true then 1 else 0 := by
 have e1 : (s : Int).fdiv (2 ^ i) = ((s / 2 ^ i : Nat) : Int) := by
  rw [Int.fdiv_eq_ediv_of_nonneg _ (by exact Int.pow_nonneg (by omega))]
  simp
 have e2 : (BitVec.ofInt 64 ((s / 2 ^ i : Nat) : Int) &&& BitVec.ofInt 64 1).toNat = (s / 2 ^ i) % 2 := by
  have h1 : (BitVec.ofInt 64 1) = 1#64 := by decide
  rw [h1, BitVec.ofInt_natCast, BitVec.toNat_and, BitVec.toNat_ofNat, BitVec.toNat_ofNat]
  rw [show (1 % 2 ^ 64 : Nat) = 1 by decide, Nat.and_one_is_mod]
  omega
 rw [e1, e2, Nat.testBit_eq_decide_div_mod_eq]
 rcases Nat.mod_two_eq_zero_or_one (s / 2 ^ i) with h | h
 ·rw [h]; simp; decide
 ·rw [h]; simp; decide
def fewE (c : Chains) : Int := if chainsE c ≠ 0 then chainsE c else if 12 < (allSpots c).length then 4 else if hasG c then 0 else 6
def fewR (c : Chains) : List Spot := if fewE c = 0 then (fewest c).getD [] else []
end Go.Proofs
namespace Go.Proofs
open Go Go.Ab
set_option linter.unusedSimpArgs false
variable {G : Nat → Option (List IC)}
set_option maxHeartbeats 4000000 in
theorem pFewest_c (c : Chains) (hG : sheetG G) (hC : chainG G) (hsm : SmallC c) (hSF : SortFOk G) (objs : List DObj) : DCall Tryz.prog G 32 [chv c] objs (fun rr objs' => rr = .tup [spotsv (fewR c), iv (fewE c)] ∧ objs' = objs) := by
 refine DCall.frame ?_ (by simp) (by simp) objs
 refine DCall_intro Tryz.func32 rfl Tryz.ntmps32 (by simp) rfl ?_
 try simp only [chv]
 have c1 := chOpen_c c hG hC hsm
 simp only [spotsv]
 by_cases h00 : chainsE c = 0
 ·have hOk := okC h00
  have c2 := spotsF_c (G := G) (deskC c (cntD c) (tkM c.reg c.lets))
  have c3 := collect_c (G := G) c (cntD c) hOk hsm hSF
  rw [h00] at c1
  simp only [deskR, h00, if_true, deskC] at c1
  simp only [deskC] at c2 c3
  by_cases h12 : 12 < (allSpots c).length
  ·have hE : fewE c = 4 := by rw [fewE, if_neg (by simp [h00]), if_pos h12]
   rw [fewR, hE, if_neg (by decide)]
   have h12' : (12 : Int) < ((allSpots c).length : Int) := by omega
   have hs : True := trivial
   repeat' first | (with_reducible first | refine q01 ?_ | refine q02 ?_ | refine q11 ?_ | refine q14 ?_ | refine q17 ?_) | (with_reducible refine At.fn_ret (by simp -dsimp [h12, h12', hs]; exact rfl) ?_) | (refine CallE.pure (c1) ?_; try simp -dsimp [h12, h12', hs]) | (refine CallE.pure (c2) ?_; try simp -dsimp [h12, h12', hs]) | (refine CallE.pure (c3) ?_; try simp -dsimp [h12, h12', hs]) | (with_reducible refine DT_regionE [0,1,2,3,4,5,6,7,8,9,10,11,12,13,20,27,30,31,32,34,35,36,37,45,85,89] ?_; simp -dsimp [h12, h12', hs]) | (refine DT_cond rfl (fun h => ?_) (fun h => ?_) <;> (try simp only [nrm] at h) <;> (try exact Bool.noConfusion h))
   all_goals try simp -dsimp [h12, h12', hs]
   all_goals try clear hs
  ·have hEE : fewE c = if hasG c then 0 else 6 := by rw [fewE, if_neg (by simp [h00]), if_neg h12]
   have h12' : ¬ (12 : Int) < ((allSpots c).length : Int) := by omega
   have hnone := fewest_none hOk
   have hF : fewest c = fewestTo c none (2 ^ (allSpots c).length) := rfl
   have hF0 : fewestTo c none 0 = none := rfl
   have hst := fewestTo_succ c none
   have hgd : ∀ x, goodF c x = allT c (inS x) 0 := fun _ => rfl
   have hwr := fun (l : List Spot) (hl : l.length < 1000000) => pwrong_c (G := G) c (cntD c) (fewF l) (inS l) 0 0 (Nat.zero_le _) hsm.2.2.1 hOk (few_so c hl) (by decide) (by decide)
   have hfind := fun l : List Spot => allT_find c (inS l) 0
   generalize hS : allSpots c = S at *
   have hPe : (2 : Nat) ^ S.length ≤ 2 ^ 12 := Nat.pow_le_pow_right (by omega) (by omega)
   have hmin : min S.length 64 = S.length := by omega
   have hb64 : IntKind.i64.bits = 64 := rfl
   have hlnn : ¬ ((S.length : Int) < 0) := by omega
   have hsh : IntKind.i64.wrap ((2 : Int) ^ S.length) = ((2 ^ S.length : Nat) : Int) := by
    rw [show ((2 : Int) ^ S.length) = ((2 ^ S.length : Nat) : Int) by simp]
    exact (fun (P : Nat) (h : P ≤ 2 ^ 12) => (i64w (by omega) (by omega) : IntKind.i64.wrap (P : Int) = (P : Int))) _ hPe
   generalize hP : 2 ^ S.length = P at *
   have hs : True := trivial
   repeat' first | (with_reducible first | refine q01 ?_ | refine q11 ?_ | refine q12 ?_ | refine q14 ?_) | (refine CallE.pure (c1) ?_; try simp -dsimp [h12, h12', hmin, hb64, hlnn, hsh, hs]) | (refine CallE.pure (c2) ?_; try simp -dsimp [h12, h12', hmin, hb64, hlnn, hsh, hs]) | (refine CallE.pure (c3) ?_; try simp -dsimp [h12, h12', hmin, hb64, hlnn, hsh, hs]) | (with_reducible refine DT_regionE [0,1,2,3,4,5,6,7,8,9,10,11,12,13,20,27,30,31,32,34,35,36,37,45,85,89] ?_; simp -dsimp [h12, h12', hmin, hb64, hlnn, hsh, hs]) | (refine DT_cond rfl (fun h => ?_) (fun h => ?_) <;> (try simp only [nrm] at h) <;> (try exact Bool.noConfusion h))
   all_goals try simp -dsimp [h12, h12', hmin, hb64, hlnn, hsh, hs]
   all_goals try clear hs
   refine DT_loop (ι := { p : Nat × Option (List Spot) // p.1 ≤ P ∧ p.2 = fewestTo c none p.1 ∧ ∀ b, p.2 = some b → b.length ≤ 12 }) (fun p => ⟨91, [(4, .one (.im (deskC c (cntD c) (tkM c.reg c.lets)))), (6, .one (.im (.sl (S.map encSpot)))), (7, .one (.im (.sl ((p.1.2.getD []).map encSpot)))), (8, bv p.1.2.isSome), (30, iv (P : Int)), (31, iv (p.1.1 : Int))], []⟩) (fun p => P - p.1.1) ⟨(0, none), by simp [hF0]⟩ (Weak.of_drop [4,6,7,8,30,31] 0 (by simp) (by simp) (by simp [deskC])) ?_
   rintro ⟨⟨s, best⟩, hs1, hbest, hbl⟩
   simp only at hs1 hbest hbl
   simp only [iv, bv, deskC]
   by_cases hlt : s < P
   ·have hw : IntKind.i64.wrap ((s : Int) + 1) = ((s + 1 : Nat) : Int) := i64w (by omega) (by omega)
    have hs : True := trivial
    repeat' first | (with_reducible first | refine q01 ?_ | refine q11 ?_ | refine q12 ?_ | refine q14 ?_) | (with_reducible refine DT_regionE [0,1,2,3,4,5,6,7,8,9,10,11,12,13,20,27,30,31,32,34,35,36,37,45,85,89] ?_; simp -dsimp [hlt, hs]) | (refine DT_cond rfl (fun h => ?_) (fun h => ?_) <;> (try simp only [nrm] at h) <;> (try exact Bool.noConfusion h))
    all_goals try simp -dsimp [hlt, hs]
    all_goals try clear hs
    refine DT_loop (ι := { p : Nat × Nat × Nat × Bool // p.1 ≤ S.length ∧ (p.2.2.1 = 2 ∨ p.2.2.2 = true) }) (fun p => ⟨91, [(4, .one (.im (deskC c (cntD c) (tkM c.reg c.lets)))), (6, .one (.im (.sl (S.map encSpot)))), (7, .one (.im (.sl ((best.getD []).map encSpot)))), (8, bv best.isSome), (9, iv (s : Int)), (10, .one (.ptr 1 0)), (30, iv (P : Int)), (31, iv (s : Int)), (34, .one (.im (.sl (S.map encSpot)))), (35, iv (S.length : Int)), (36, iv (p.1.1 : Int))], [.vec p.1.2.2.1 (ims ((memb S s p.1.1).map encSpot)) p.1.2.1 p.1.2.2.2, .row [.vec 0 p.1.2.1 0 (memb S s p.1.1).length]]⟩) (fun p => S.length - p.1.1) ⟨(0, 0, 0, true), by simp⟩ (Weak.of_keep [4,6,7,8,9,10,30,31,34,35,36] (by simp [deskC, memb])) ?_
    rintro ⟨⟨i, gn, sz, nl⟩, hi, hz⟩
    simp only at hi hz
    simp only [iv, bv, deskC]
    have hmlen := memb_len S s i
    by_cases hlti : i < S.length
    ·have hx : S[i]? = some S[i] := by simp [hlti]
     have hwi : IntKind.i64.wrap ((i : Int) + 1) = ((i + 1 : Nat) : Int) := i64w (by omega) (by omega)
     have hi63 : min i 64 = i := by omega
     have hin : ¬ ((i : Int) < 0) := by omega
     have hbit := bit_at' s i
     have hsu := memb_succ (set := s) hlti
     generalize hxe : S[i] = x at *
     cases hb : s.testBit i
     ·rw [hb] at hbit hsu
      simp at hbit
      rw [if_neg Bool.false_ne_true, List.append_nil] at hsu
      have hs : True := trivial
      repeat' first | (with_reducible first | refine q01 ?_ | refine q04 ?_ | refine q11 ?_ | refine q12 ?_ | refine q14 ?_) | (with_reducible refine DT_regionE [0,1,2,3,4,5,6,7,8,9,10,11,12,13,20,27,30,31,32,34,35,36,37,45,85,89] ?_; simp -dsimp [hx, hxe, hlti, hwi, hin, hi63, hb64, hbit, hs]) | (refine DT_cond rfl (fun h => ?_) (fun h => ?_) <;> (try simp only [nrm] at h) <;> (try exact Bool.noConfusion h))
      all_goals try simp -dsimp [hx, hxe, hlti, hwi, hin, hi63, hb64, hbit, hs]
      all_goals try clear hs
      all_goals exact At.round ⟨(i + 1, gn, sz, nl), by omega, hz⟩ (by simp; omega) (Weak.of_drop [4,6,7,8,9,10,30,31,34,35,36] 2 (by simp) (by simp) (by simp [deskC, hsu]))
     ·rw [hb] at hbit hsu
      simp at hbit
      rw [if_pos rfl] at hsu
      generalize memb S s i = L at *
      have hs : True := trivial
      repeat' first | (with_reducible first | refine q01 ?_ | refine q04 ?_ | refine q11 ?_ | refine q12 ?_ | refine q14 ?_ | refine And.intro (by omega) ?_) | (with_reducible refine DT_regionE [0,1,2,3,4,5,6,7,8,9,10,11,12,13,20,27,30,31,32,34,35,36,37,45,85,89] ?_; simp -dsimp [hx, hxe, hlti, hwi, hin, hi63, hb64, hbit, hz, hs]) | (refine DT_cond rfl (fun h => ?_) (fun h => ?_) <;> (try simp only [nrm] at h) <;> (try exact Bool.noConfusion h))
      all_goals try simp -dsimp [hx, hxe, hlti, hwi, hin, hi63, hb64, hbit, hz, hs]
      all_goals try clear hs
      all_goals try omega
      all_goals exact At.round ⟨(i + 1, gn + 1, 2, false), by simp; omega⟩ (by simp; omega) (Weak.of_drop [4,6,7,8,9,10,30,31,34,35,36] 2 (by simp) (by simp) (by simp [deskC, hsu]))
    ·have hie : i = S.length := by omega
     subst hie
     have hstep := hst s
     rw [← hbest] at hstep
     rw [stepF, hgd] at hstep
     have hwL := hwr (memb S s S.length) (by omega)
     have hfL := hfind (memb S s S.length)
     generalize memb S s S.length = L at *
     simp only [deskC, fewF, Int.natCast_zero] at hwL
     generalize findW c (inS L) 0 0 = m at *
     generalize allT c (inS L) 0 = r at *
     have hr : r = decide ((m : Int) = (c.loops.length : Int)) := by
      rw [Bool.eq_iff_iff, hfL, decide_eq_true_iff]; omega
     cases best with
     | none =>
       simp only [betterS, Bool.true_and] at hstep
       by_cases hm : (m : Int) = (c.loops.length : Int)
       ·rw [hr, decide_eq_true hm, if_pos rfl] at hstep
        have hs : True := trivial
        repeat' first | (with_reducible first | refine q01 ?_ | refine q03 ?_ | refine q04 ?_ | refine q06 ?_ | refine q11 ?_ | refine q16 ?_) | (refine QCall.thaw (hwL) ?_ ?_ ?_; (focus (simp; done)); (focus (simp; done)); try simp -dsimp [hlti, hw, hm, hz, hs]) | (refine DT_regionM (id := 20) (nt := 91) 13 [0,1,2,3,4,5,6,7,8,9,10,11,12,13,20,27,30,31,32,34,35,36,37,45,85,89] mixed rfl (by kernel_rfl) ?_; simp -dsimp [hlti, hw, hm, hz, hs]) | (with_reducible refine DT_regionE [0,1,2,3,4,5,6,7,8,9,10,11,12,13,20,27,30,31,32,34,35,36,37,45,85,89] ?_; simp -dsimp [hlti, hw, hm, hz, hs]) | (refine DT_cond rfl (fun h => ?_) (fun h => ?_) <;> (try simp only [nrm] at h) <;> (try exact Bool.noConfusion h))
        all_goals try simp -dsimp [hlti, hw, hm, hz, hs]
        all_goals try clear hs
        all_goals exact At.round ⟨(s + 1, some L), by omega, hstep.symm, fun b hb => by cases hb; omega⟩ (by simp; omega) (Weak.of_drop [4,6,7,8,30,31] 0 (by simp) (by simp) (by simp [deskC]))
       ·rw [hr, decide_eq_false hm, if_neg Bool.false_ne_true] at hstep
        have hs : True := trivial
        repeat' first | (with_reducible first | refine q01 ?_ | refine q03 ?_ | refine q04 ?_ | refine q06 ?_ | refine q11 ?_ | refine q14 ?_ | refine q16 ?_) | (refine QCall.thaw (hwL) ?_ ?_ ?_; (focus (simp; done)); (focus (simp; done)); try simp -dsimp [hlti, hw, hm, hz, hs]) | (refine DT_regionM (id := 20) (nt := 91) 13 [0,1,2,3,4,5,6,7,8,9,10,11,12,13,20,27,30,31,32,34,35,36,37,45,85,89] mixed rfl (by kernel_rfl) ?_; simp -dsimp [hlti, hw, hm, hz, hs]) | (with_reducible refine DT_regionE [0,1,2,3,4,5,6,7,8,9,10,11,12,13,20,27,30,31,32,34,35,36,37,45,85,89] ?_; simp -dsimp [hlti, hw, hm, hz, hs]) | (refine DT_cond rfl (fun h => ?_) (fun h => ?_) <;> (try simp only [nrm] at h) <;> (try exact Bool.noConfusion h))
        all_goals try simp -dsimp [hlti, hw, hm, hz, hs]
        all_goals try clear hs
        all_goals exact At.round ⟨(s + 1, none), by omega, hstep.symm, fun b hb => by cases hb⟩ (by simp; omega) (Weak.of_drop [4,6,7,8,30,31] 0 (by simp) (by simp) (by simp [deskC]))
     | some b =>
       have hbl' := hbl b rfl
       simp only [betterS] at hstep
       have hsh2 := shorter_iff (a := L) (b := b)
       have c4 := cmpL_c (G := G) L b (by omega) (by omega)
       have hlx := cmpL_lt (a := L) (b := b)
       simp only [spotsv] at c4
       generalize cmpL L b = q at *
       by_cases hl1 : L.length < b.length
       ·have hs2 : shorterS L b = true := hsh2.2 (.inl hl1)
        by_cases hm : (m : Int) = (c.loops.length : Int)
        ·simp only [hs2, hr, decide_eq_true hm, Bool.and_self, if_true] at hstep
         have hs : True := trivial
         repeat' first | (with_reducible first | refine q01 ?_ | refine q03 ?_ | refine q04 ?_ | refine q06 ?_ | refine q11 ?_ | refine q16 ?_) | (refine QCall.thaw (hwL) ?_ ?_ ?_; (focus (simp; done)); (focus (simp; done)); try simp -dsimp [hlti, hw, hm, hz, hl1, hs]) | (refine DT_regionM (id := 20) (nt := 91) 13 [0,1,2,3,4,5,6,7,8,9,10,11,12,13,20,27,30,31,32,34,35,36,37,45,85,89] mixed rfl (by kernel_rfl) ?_; simp -dsimp [hlti, hw, hm, hz, hl1, hs]) | (with_reducible refine DT_regionE [0,1,2,3,4,5,6,7,8,9,10,11,12,13,20,27,30,31,32,34,35,36,37,45,85,89] ?_; simp -dsimp [hlti, hw, hm, hz, hl1, hs]) | (refine DT_cond rfl (fun h => ?_) (fun h => ?_) <;> (try simp only [nrm] at h) <;> (try exact Bool.noConfusion h))
         all_goals try simp -dsimp [hlti, hw, hm, hz, hl1, hs]
         all_goals try clear hs
         all_goals exact At.round ⟨(s + 1, some L), by omega, hstep.symm, fun b hb => by cases hb; omega⟩ (by simp; omega) (Weak.of_drop [4,6,7,8,30,31] 0 (by simp) (by simp) (by simp [deskC]))
        ·simp only [hs2, hr, decide_eq_false hm, Bool.and_false, Bool.false_eq_true, if_false] at hstep
         have hs : True := trivial
         repeat' first | (with_reducible first | refine q01 ?_ | refine q03 ?_ | refine q04 ?_ | refine q06 ?_ | refine q11 ?_ | refine q14 ?_ | refine q16 ?_) | (refine QCall.thaw (hwL) ?_ ?_ ?_; (focus (simp; done)); (focus (simp; done)); try simp -dsimp [hlti, hw, hm, hz, hl1, hs]) | (refine DT_regionM (id := 20) (nt := 91) 13 [0,1,2,3,4,5,6,7,8,9,10,11,12,13,20,27,30,31,32,34,35,36,37,45,85,89] mixed rfl (by kernel_rfl) ?_; simp -dsimp [hlti, hw, hm, hz, hl1, hs]) | (with_reducible refine DT_regionE [0,1,2,3,4,5,6,7,8,9,10,11,12,13,20,27,30,31,32,34,35,36,37,45,85,89] ?_; simp -dsimp [hlti, hw, hm, hz, hl1, hs]) | (refine DT_cond rfl (fun h => ?_) (fun h => ?_) <;> (try simp only [nrm] at h) <;> (try exact Bool.noConfusion h))
         all_goals try simp -dsimp [hlti, hw, hm, hz, hl1, hs]
         all_goals try clear hs
         all_goals exact At.round ⟨(s + 1, some b), by omega, hstep.symm, hbl⟩ (by simp; omega) (Weak.of_drop [4,6,7,8,30,31] 0 (by simp) (by simp) (by simp [deskC]))
       ·by_cases hl2 : L.length = b.length
        ·have hl2' : ((L.length : Int) = (b.length : Int)) = True := eq_true (by omega)
         by_cases hq : q < 0
         ·have hs2 : shorterS L b = true := hsh2.2 (.inr ⟨hl2, (hlx hl2).1 hq⟩)
          by_cases hm : (m : Int) = (c.loops.length : Int)
          ·simp only [hs2, hr, decide_eq_true hm, Bool.and_self, if_true] at hstep
           have hs : True := trivial
           repeat' first | (with_reducible first | refine q01 ?_ | refine q03 ?_ | refine q04 ?_ | refine q06 ?_ | refine q11 ?_ | refine q16 ?_) | (refine QCall.thaw (hwL) ?_ ?_ ?_; (focus (simp; done)); (focus (simp; done)); try simp -dsimp [hlti, hw, hm, hz, hl1, hl2', hq, hs]) | (refine CallE.thaw (c4) ?_ ?_ ?_; (focus (simp; done)); (focus (simp; done)); try simp -dsimp [hlti, hw, hm, hz, hl1, hl2', hq, hs]) | (refine DT_regionM (id := 20) (nt := 91) 13 [0,1,2,3,4,5,6,7,8,9,10,11,12,13,20,27,30,31,32,34,35,36,37,45,85,89] mixed rfl (by kernel_rfl) ?_; simp -dsimp [hlti, hw, hm, hz, hl1, hl2', hq, hs]) | (with_reducible refine DT_regionE [0,1,2,3,4,5,6,7,8,9,10,11,12,13,20,27,30,31,32,34,35,36,37,45,85,89] ?_; simp -dsimp [hlti, hw, hm, hz, hl1, hl2', hq, hs]) | (refine DT_cond rfl (fun h => ?_) (fun h => ?_) <;> (try simp only [nrm] at h) <;> (try exact Bool.noConfusion h))
           all_goals try simp -dsimp [hlti, hw, hm, hz, hl1, hl2', hq, hs]
           all_goals try clear hs
           all_goals exact At.round ⟨(s + 1, some L), by omega, hstep.symm, fun b hb => by cases hb; omega⟩ (by simp; omega) (Weak.of_drop [4,6,7,8,30,31] 0 (by simp) (by simp) (by simp [deskC]))
          ·simp only [hs2, hr, decide_eq_false hm, Bool.and_false, Bool.false_eq_true, if_false] at hstep
           have hs : True := trivial
           repeat' first | (with_reducible first | refine q01 ?_ | refine q03 ?_ | refine q04 ?_ | refine q06 ?_ | refine q11 ?_ | refine q14 ?_ | refine q16 ?_) | (refine QCall.thaw (hwL) ?_ ?_ ?_; (focus (simp; done)); (focus (simp; done)); try simp -dsimp [hlti, hw, hm, hz, hl1, hl2', hq, hs]) | (refine CallE.thaw (c4) ?_ ?_ ?_; (focus (simp; done)); (focus (simp; done)); try simp -dsimp [hlti, hw, hm, hz, hl1, hl2', hq, hs]) | (refine DT_regionM (id := 20) (nt := 91) 13 [0,1,2,3,4,5,6,7,8,9,10,11,12,13,20,27,30,31,32,34,35,36,37,45,85,89] mixed rfl (by kernel_rfl) ?_; simp -dsimp [hlti, hw, hm, hz, hl1, hl2', hq, hs]) | (with_reducible refine DT_regionE [0,1,2,3,4,5,6,7,8,9,10,11,12,13,20,27,30,31,32,34,35,36,37,45,85,89] ?_; simp -dsimp [hlti, hw, hm, hz, hl1, hl2', hq, hs]) | (refine DT_cond rfl (fun h => ?_) (fun h => ?_) <;> (try simp only [nrm] at h) <;> (try exact Bool.noConfusion h))
           all_goals try simp -dsimp [hlti, hw, hm, hz, hl1, hl2', hq, hs]
           all_goals try clear hs
           all_goals exact At.round ⟨(s + 1, some b), by omega, hstep.symm, hbl⟩ (by simp; omega) (Weak.of_drop [4,6,7,8,30,31] 0 (by simp) (by simp) (by simp [deskC]))
         ·have hs2 : shorterS L b = false := by
           rw [← Bool.not_eq_true, hsh2, ← hlx hl2]; omega
          simp only [hs2, Bool.false_and, Bool.false_eq_true, if_false] at hstep
          have hs : True := trivial
          repeat' first | (with_reducible first | refine q01 ?_ | refine q03 ?_ | refine q04 ?_ | refine q06 ?_ | refine q11 ?_ | refine q14 ?_ | refine q16 ?_) | (refine CallE.thaw (c4) ?_ ?_ ?_; (focus (simp; done)); (focus (simp; done)); try simp -dsimp [hlti, hw, hz, hl1, hl2', hq, hs]) | (refine DT_regionM (id := 20) (nt := 91) 13 [0,1,2,3,4,5,6,7,8,9,10,11,12,13,20,27,30,31,32,34,35,36,37,45,85,89] mixed rfl (by kernel_rfl) ?_; simp -dsimp [hlti, hw, hz, hl1, hl2', hq, hs]) | (with_reducible refine DT_regionE [0,1,2,3,4,5,6,7,8,9,10,11,12,13,20,27,30,31,32,34,35,36,37,45,85,89] ?_; simp -dsimp [hlti, hw, hz, hl1, hl2', hq, hs]) | (refine DT_cond rfl (fun h => ?_) (fun h => ?_) <;> (try simp only [nrm] at h) <;> (try exact Bool.noConfusion h))
          all_goals try simp -dsimp [hlti, hw, hz, hl1, hl2', hq, hs]
          all_goals try clear hs
          all_goals exact At.round ⟨(s + 1, some b), by omega, hstep.symm, hbl⟩ (by simp; omega) (Weak.of_drop [4,6,7,8,30,31] 0 (by simp) (by simp) (by simp [deskC]))
        ·have hl2' : ¬ (L.length : Int) = (b.length : Int) := by omega
         have hs2 : shorterS L b = false := by
          rw [← Bool.not_eq_true, hsh2]; omega
         simp only [hs2, Bool.false_and, Bool.false_eq_true, if_false] at hstep
         have hs : True := trivial
         repeat' first | (with_reducible first | refine q01 ?_ | refine q03 ?_ | refine q04 ?_ | refine q06 ?_ | refine q11 ?_ | refine q14 ?_ | refine q16 ?_) | (refine DT_regionM (id := 20) (nt := 91) 13 [0,1,2,3,4,5,6,7,8,9,10,11,12,13,20,27,30,31,32,34,35,36,37,45,85,89] mixed rfl (by kernel_rfl) ?_; simp -dsimp [hlti, hw, hz, hl1, hl2', hs]) | (with_reducible refine DT_regionE [0,1,2,3,4,5,6,7,8,9,10,11,12,13,20,27,30,31,32,34,35,36,37,45,85,89] ?_; simp -dsimp [hlti, hw, hz, hl1, hl2', hs]) | (refine DT_cond rfl (fun h => ?_) (fun h => ?_) <;> (try simp only [nrm] at h) <;> (try exact Bool.noConfusion h))
         all_goals try simp -dsimp [hlti, hw, hz, hl1, hl2', hs]
         all_goals try clear hs
         all_goals exact At.round ⟨(s + 1, some b), by omega, hstep.symm, hbl⟩ (by simp; omega) (Weak.of_drop [4,6,7,8,30,31] 0 (by simp) (by simp) (by simp [deskC]))
   ·have hsP : s = P := by omega
    subst hsP
    rw [← hF] at hbest
    rw [← hbest] at hnone
    cases best with
    | none =>
      have hg := hnone.1 rfl
      have hE : fewE c = 6 := by rw [hEE, hg]; rfl
      rw [fewR, hE, if_neg (by decide)]
      have hs : True := trivial
      repeat' first | (with_reducible first | refine q01 ?_ | refine q02 ?_ | refine q03 ?_ | refine q06 ?_ | refine q11 ?_ | refine q16 ?_ | refine q17 ?_) | (with_reducible refine At.fn_ret (by simp -dsimp [hlt, hs]; exact rfl) ?_) | (with_reducible refine DT_regionE [0,1,2,3,4,5,6,7,8,9,10,11,12,13,20,27,30,31,32,34,35,36,37,45,85,89] ?_; simp -dsimp [hlt, hs]) | (refine DT_cond rfl (fun h => ?_) (fun h => ?_) <;> (try simp only [nrm] at h) <;> (try exact Bool.noConfusion h))
      all_goals try simp -dsimp [hlt, hs]
      all_goals try clear hs
    | some b =>
      have hg : hasG c = true := by
       cases hq : hasG c with
       | true => rfl
       | false => have := hnone.2 hq; cases this
      have hE : fewE c = 0 := by rw [hEE, hg]; rfl
      rw [fewR, hE, if_pos rfl, ← hbest]
      have hs : True := trivial
      repeat' first | (with_reducible first | refine q01 ?_ | refine q03 ?_ | refine q06 ?_ | refine q11 ?_ | refine q14 ?_ | refine q16 ?_ | refine q17 ?_) | (with_reducible refine At.fn_ret (by simp -dsimp [hlt, hs]; exact rfl) ?_) | (with_reducible refine DT_regionE [0,1,2,3,4,5,6,7,8,9,10,11,12,13,20,27,30,31,32,34,35,36,37,45,85,89] ?_; simp -dsimp [hlt, hs]) | (refine DT_cond rfl (fun h => ?_) (fun h => ?_) <;> (try simp only [nrm] at h) <;> (try exact Bool.noConfusion h))
      all_goals try simp -dsimp [hlt, hs]
      all_goals try clear hs
 ·obtain ⟨X, hX⟩ := deskR_one c
  rw [hX] at c1
  have hE : fewE c = chainsE c := by rw [fewE, if_pos h00]
  rw [fewR, hE, if_neg h00]
  have hs : True := trivial
  repeat' first | (with_reducible first | refine q01 ?_ | refine q02 ?_ | refine q11 ?_ | refine q17 ?_) | (with_reducible refine At.fn_ret (by simp -dsimp [h00, hs]; exact rfl) ?_) | (refine CallE.pure (c1) ?_; try simp -dsimp [h00, hs]) | (with_reducible refine DT_regionE [0,1,2,3,4,5,6,7,8,9,10,11,12,13,20,27,30,31,32,34,35,36,37,45,85,89] ?_; simp -dsimp [h00, hs]) | (refine DT_cond rfl (fun h => ?_) (fun h => ?_) <;> (try simp only [nrm] at h) <;> (try exact Bool.noConfusion h))
  all_goals try simp -dsimp [h00, hs]
  all_goals try clear hs
end Go.Proofs
