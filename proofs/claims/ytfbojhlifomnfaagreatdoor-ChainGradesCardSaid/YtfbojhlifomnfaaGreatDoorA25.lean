/- Part 25 of the proofs: laws and walks that hold without conditions beyond those that each theorem names. -/
import Derived.Test.YtfbojhlifomnfaaGreatDoorA13
import Derived.Test.YtfbojhlifomnfaaGreatDoorA24
set_option linter.all false
set_option linter.deprecated false
namespace Go.Proofs
open Go Go.Ab
set_option linter.unusedSimpArgs false
variable {G : Nat → Option (List IC)}
def orI' : List Int → Int
 | [] => 0
 | x :: r => if x = 0 then orI' r else x
theorem or_c' (l : List Int) (hl : l.length < 1000000) (objs : List DObj) : DCall Tryz.prog G 128 [isv l] objs (fun rr objs' => rr = iv (orI' l) ∧ objs' = objs) := by
 refine DCall.frame ?_ (by simp) (by simp) objs
 refine DCall_intro Tryz.func128 rfl Tryz.ntmps128 (by simp) rfl ?_
 try simp only [isv]
 have hs : True := trivial
 repeat' first | (with_reducible first | refine q01 ?_ | refine q11 ?_ | refine q12 ?_) | (with_reducible refine DT_regionE [0,2,3,5,6,7,8,9,14] ?_; simp -dsimp [hs])
 all_goals try simp -dsimp [hs]
 all_goals try clear hs
 refine DT_loop (ι := { p : Nat // p ≤ l.length ∧ orI' l = orI' (l.drop p) }) (fun p => ⟨18, [(3, iv 0), (6, .one (.im (.sl (l.map encI)))), (7, iv (l.length : Int)), (8, iv (p.1 : Int))], []⟩) (fun p => l.length - p.1) ⟨0, by simp⟩ (Weak.of_keep [3,6,7,8] (by simp)) ?_
 rintro ⟨k, hk, hu⟩
 simp only [iv]
 by_cases hlt : k < l.length
 ·have hw : IntKind.i64.wrap ((k : Int) + 1) = ((k + 1 : Nat) : Int) := i64w (by omega) (by omega)
  rw [List.drop_eq_getElem_cons hlt, orI'] at hu
  generalize hx : l[k] = x at *
  have hs : True := trivial
  repeat' first | (with_reducible first | refine q01 ?_ | refine q02 ?_ | refine q04 ?_ | refine q05 ?_ | refine q11 ?_ | refine q12 ?_ | refine q14 ?_ | refine q17 ?_) | (with_reducible refine At.fn_ret (by simp -dsimp [hx, hw, hlt, hs]; exact rfl) ?_) | (with_reducible refine DT_regionE [0,2,3,5,6,7,8,9,14] ?_; simp -dsimp [hx, hw, hlt, hs]) | (refine DT_cond rfl (fun h => ?_) (fun h => ?_) <;> (try simp only [nrm] at h) <;> (try exact Bool.noConfusion h))
  all_goals try simp -dsimp [hx, hw, hlt, hs]
  all_goals try clear hs
  ·rw [hu, if_neg (by assumption)]
  ·rw [if_pos (by assumption)] at hu
   exact At.round ⟨k + 1, by omega, hu⟩ (by simp; omega) (Weak.of_keep [3,6,7,8] (by simp))
 ·rw [List.drop_eq_nil_of_le (by omega)] at hu
  have hs : True := trivial
  repeat' first | (with_reducible first | refine q01 ?_ | refine q03 ?_ | refine q06 ?_ | refine q11 ?_ | refine q16 ?_ | refine q17 ?_) | (with_reducible refine At.fn_ret (by simp -dsimp [hlt, hs]; exact rfl) ?_) | (with_reducible refine DT_regionE [0,2,3,5,6,7,8,9,14] ?_; simp -dsimp [hlt, hs]) | (refine DT_cond rfl (fun h => ?_) (fun h => ?_) <;> (try simp only [nrm] at h) <;> (try exact Bool.noConfusion h))
  all_goals try simp -dsimp [hlt, hs]
  all_goals try clear hs
  rw [hu]; rfl
def ordS (a b : Spot) : Int := orI' [cmpI a.drawing b.drawing, cmpI a.dim b.dim]
theorem ordS_lt {a b : Spot} : ordS a b < 0 ↔ before a b = true := by
 rw [before_iff]
 unfold ordS cmpI orI' orI' orI'
 repeat' split
 all_goals omega
theorem order_c (a b : Spot) (objs : List DObj) : DCall Tryz.prog G 85 [refv a.drawing a.dim, refv b.drawing b.dim] objs (fun rr objs' => rr = iv (ordS a b) ∧ objs' = objs) := by
 refine DCall.frame ?_ (by simp) (by simp) objs
 refine DCall_intro Tryz.func85 rfl Tryz.ntmps85 (by simp) rfl ?_
 try simp only [refv, refv]
 have c1 := compare_c (G := G) a.drawing b.drawing
 have c2 := compare_c (G := G) a.dim b.dim
 have c3 := or_c' (G := G) [cmpI a.drawing b.drawing, cmpI a.dim b.dim] (by simp)
 have hE : ordS a b = orI' [cmpI a.drawing b.drawing, cmpI a.dim b.dim] := rfl
 rw [← hE] at c3
 have hs : True := trivial
 repeat' first | (with_reducible first | refine q01 ?_ | refine q11 ?_ | refine q17 ?_) | (with_reducible refine At.fn_ret (by simp -dsimp [hs]; exact rfl) ?_) | (refine QCall_pure (c1) ?_; try simp -dsimp [hs]) | (refine QCall_pure (c2) ?_; try simp -dsimp [hs]) | (refine QCall_pure (c3) ?_; try simp -dsimp [hs]) | (refine DT_regionM (id := 1) (nt := 17) 13 [0,1,2,3,4] mixed rfl (by kernel_rfl) ?_; simp -dsimp [hs]) | (with_reducible refine DT_regionE [0,1,2,3,4] ?_; simp -dsimp [hs])
 all_goals try simp -dsimp [hs]
 all_goals try clear hs
theorem spotsF_c (X : IC) (objs : List DObj) : DCall Tryz.prog G 77 [.one (.im X)] objs (fun rr objs' => rr = .one (.im (.fn (.func 123) [.ip [X]])) ∧ objs' = objs) := by
 refine DCall.frame ?_ (by simp) (by simp) objs
 refine DCall_intro Tryz.func77 rfl Tryz.ntmps77 (by simp) rfl ?_
 try simp only [iv]
 have hs : True := trivial
 repeat' first | (with_reducible first | refine q01 ?_ | refine q11 ?_ | refine q17 ?_) | (with_reducible refine At.fn_ret (by simp -dsimp [hs]; exact rfl) ?_) | (with_reducible refine DT_regionE [0,1,2] ?_; simp -dsimp [hs])
 all_goals try simp -dsimp [hs]
 all_goals try clear hs
def SortFOk (G : Nat → Option (List IC)) : Prop := ∀ (l : List Spot) (gn sz : Nat) (nl : Bool), (sz = 2 ∨ nl = true ∧ l = []) → l.length < 1000000 →
 DCall Tryz.prog G 124 [.one (.vec 0 gn 0 l.length), .one (.im (.fn (.func 85) []))] [.vec sz (ims (l.map encSpot)) gn nl] (fun d o => d = .tup [] ∧ ∃ l' : List Spot, l'.Perm l ∧ (l'.Pairwise fun a b => ¬ ordS b a < 0) ∧ o = [.vec sz (ims (l'.map encSpot)) gn nl])
theorem sorted_of {l' l : List Spot} (hp : l'.Perm l) (hn : l.Nodup) (h : l'.Pairwise fun a b => ¬ ordS b a < 0) : SortedS l' := by
 have hn' : l'.Nodup := hp.symm.nodup hn
 unfold SortedS
 refine (List.Pairwise.and h hn').imp fun {a b} ⟨h1, h2⟩ => ?_
 rw [ordS_lt] at h1
 exact (before_tri h2).resolve_right h1
theorem foldP_len : ∀ (ys l : List Spot), (ys.foldl (fun l x => sputS x l) l).length ≤ l.length + ys.length
 | [], l => by simp
 | y :: ys, l => by
   have := foldP_len ys (sputS y l)
   have h1 : (sputS y l).length ≤ l.length + 1 := by unfold sputS; split <;> simp
   rw [List.foldl_cons, List.length_cons]; omega
theorem spots_len : ∀ (ls : List ChLoop), (∀ x ∈ ls, x.links.length ≤ 12) → (ls.flatMap fun x => x.links.map spotOf).length ≤ 12 * ls.length
 | [], _ => by simp
 | x :: ls, h => by
   have h1 := h x (by simp)
   have h2 := spots_len ls fun y hy => h y (by simp [hy])
   rw [List.flatMap_cons, List.length_append, List.length_map, List.length_cons]; omega
theorem perm_erase {α : Type} {y : α} : ∀ {l : List α} {i : Nat}, l[i]? = some y → (y :: l.eraseIdx i).Perm l
 | [], i, h => by simp at h
 | x :: l, 0, h => by simp at h; subst h; simp
 | x :: l, i + 1, h => by
   rw [List.eraseIdx_cons_succ]
   exact (List.Perm.swap x y _).trans ((perm_erase (by simpa using h)).cons x)
set_option maxHeartbeats 4000000 in
theorem appendSeq_c (c : Chains) (D : List (Int × Int)) (hOk : OkC c) (hsm : SmallC c) (hSF : SortFOk G) (objs : List DObj) : DCall Tryz.prog G 122 [.one (.im (.raw (.slice none 0 0))), .one (.im (.fn (.func 123) [.ip [deskC c D (tkM c.reg c.lets)]]))] objs (fun rr objs' => rr = .one (.im (.sl ((allSpots c).map encSpot))) ∧ objs' = objs) := by
 refine DCall.frame ?_ (by simp) (by simp) objs
 refine DCall_intro Tryz.func122 rfl Tryz.ntmps122 (by simp) rfl ?_
 try simp only [iv]
 simp only [deskC]
 have hs : True := trivial
 repeat' first | (with_reducible first | refine q01 ?_ | refine q11 ?_ | refine q12 ?_) | (with_reducible refine DT_regionE [0,1,2,4,5,6,7] ?_; simp -dsimp [hs])
 all_goals try simp -dsimp [hs]
 all_goals try clear hs
 refine DT_weak (Weak.nilCell 0 0 rfl rfl) ?_
 have hs : True := trivial
 all_goals try simp -dsimp [hs]
 all_goals try clear hs
 refine DT_rangeFunc (f := 123) (by simp; exact rfl) (by rfl) Tryz.call123 ?_
 generalize hR : LoopD.mk _ _ _ _ _ _ _ = R
 have hR1 : R.st = .ready := by rw [← hR]
 have hR2 : R.pend = none := by rw [← hR]
 have hR3 : R.at .ready none = R := by rw [← hR]; rfl
 have hR4 := (congrArg LoopD.nt hR).symm
 have hR5 := (congrArg LoopD.tm hR).symm
 have hR6 := (congrArg LoopD.ps hR).symm
 have hR7 := (congrArg LoopD.asg hR).symm
 have hR8 := (congrArg LoopD.body hR).symm
 dsimp only at hR4 hR5 hR6 hR7 hR8
 clear hR
 refine DCall_intro Tryz.func123 rfl Tryz.ntmps123 (by simp) rfl ?_
 have hR9 : ∀ objs : List DObj, (R.tm.map fun x => (x.1, fzV 5 objs x.2)) = R.tm := by intro objs; rw [hR5]; simp
 have hs : True := trivial
 repeat' first | (with_reducible first | refine q01 ?_ | refine q11 ?_ | refine q12 ?_) | (with_reducible refine DT_regionE [0,1,2,3,4,5,6,7,8,9,10,12,18,19,20,21,25,26,27,28,37,39,50,54,56,65,66,67,68,74] ?_; simp -dsimp [hR1, hR2, hR3, hs])
 all_goals try simp -dsimp [hR1, hR2, hR3, hs]
 all_goals try clear hs
 refine DT_loop (ι := { p : Nat × List Spot // p.1 ≤ c.loops.length ∧ ((c.loops.drop p.1).flatMap fun x => x.links.map spotOf).foldl (fun l x => sputS x l) p.2 = (spotsOf c).foldl (fun l x => sputS x l) [] }) (fun p => ⟨76, [(0, .one (.yld 3)), (1, .one (.im (.ip [deskC c D (tkM c.reg c.lets)]))), (3, .one (.map 4)), (18, .one (.im (.sl (c.loops.map encLoop)))), (19, iv (c.loops.length : Int)), (20, iv (p.1.1 : Int))], [.row [.vec 2 0 0 0], .vec 2 [] 0 true, .vec 0 [] 0 true, .loop R, .map [.int .i64, .int .i64] (encP p.1.2)]⟩) (fun p => c.loops.length - p.1.1) ⟨(0, []), by simp [spotsOf]⟩ (Weak.of_keep [0,1,3,18,19,20] (by simp [deskC, encP])) ?_
 rintro ⟨⟨i, L⟩, hi, hL⟩
 simp only at hi hL
 simp only [iv, deskC]
 by_cases hlt : i < c.loops.length
 ·have hx : c.loops[i]? = some c.loops[i] := by simp [hlt]
  have hw : IntKind.i64.wrap ((i : Int) + 1) = ((i + 1 : Nat) : Int) := i64w (by omega) (by have := hsm.2.2.1; omega)
  rw [List.drop_eq_getElem_cons hlt, List.flatMap_cons, List.foldl_append] at hL
  have hln := hsm.2.2.2 c.loops[i] (List.getElem_mem hlt)
  generalize hxe : c.loops[i] = x at *
  have hs : True := trivial
  repeat' first | (with_reducible first | refine q01 ?_ | refine q11 ?_ | refine q12 ?_ | refine q14 ?_) | (with_reducible refine DT_regionE [0,1,2,3,4,5,6,7,8,9,10,12,18,19,20,21,25,26,27,28,37,39,50,54,56,65,66,67,68,74] ?_; simp -dsimp [hR1, hR2, hR3, hx, hlt, hxe, hs]) | (refine DT_cond rfl (fun h => ?_) (fun h => ?_) <;> (try simp only [nrm] at h) <;> (try exact Bool.noConfusion h))
  all_goals try simp -dsimp [hR1, hR2, hR3, hx, hlt, hxe, hs]
  all_goals try clear hs
  refine DT_loop (ι := { p : Nat × List Spot // p.1 ≤ x.links.length ∧ ((x.links.drop p.1).map spotOf).foldl (fun l x => sputS x l) p.2 = (x.links.map spotOf).foldl (fun l x => sputS x l) L }) (fun p => ⟨76, [(0, .one (.yld 3)), (1, .one (.im (.ip [deskC c D (tkM c.reg c.lets)]))), (3, .one (.map 4)), (18, .one (.im (.sl (c.loops.map encLoop)))), (19, iv (c.loops.length : Int)), (20, iv (i : Int)), (25, .one (.im (.sl (x.links.map encLink)))), (26, iv (x.links.length : Int)), (27, iv (p.1.1 : Int))], [.row [.vec 2 0 0 0], .vec 2 [] 0 true, .vec 0 [] 0 true, .loop R, .map [.int .i64, .int .i64] (encP p.1.2)]⟩) (fun p => x.links.length - p.1.1) ⟨(0, L), by simp⟩ (Weak.of_drop [0,1,3,18,19,20,25,26,27] 5 (by simp) (by simp) (by clear hR4 hR5 hR6 hR7 hR8; simp [deskC, hR1, hR2, hR3, hR9, LoopD.at_eta])) ?_
  rintro ⟨⟨u, L'⟩, hu, hL'⟩
  simp only at hu hL'
  simp only [iv, deskC]
  by_cases hlu : u < x.links.length
  ·have hy : x.links[u]? = some x.links[u] := by simp [hlu]
   have hwu : IntKind.i64.wrap ((u : Int) + 1) = ((u + 1 : Nat) : Int) := i64w (by omega) (by omega)
   have c2 := spot_c (G := G) x.links[u]
   rw [List.drop_eq_getElem_cons hlu, List.map_cons, List.foldl_cons] at hL'
   have hput := mset_P L' x.links[u].drawing x.links[u].dim
   have hsp : sputS (spotOf x.links[u]) L' = sputS ⟨x.links[u].drawing, x.links[u].dim⟩ L' := rfl
   rw [hsp] at hL'
   simp only [refv, linkv, encLink, List.map_cons, List.map_nil] at c2
   have hs : True := trivial
   repeat' first | (with_reducible first | refine q01 ?_ | refine q04 ?_ | refine q11 ?_ | refine q12 ?_ | refine q14 ?_) | (refine CallE.pure (c2) ?_; try simp -dsimp [hR1, hR2, hR3, hy, hlu, hwu, hput, hs]) | (with_reducible refine DT_regionE [0,1,2,3,4,5,6,7,8,9,10,12,18,19,20,21,25,26,27,28,37,39,50,54,56,65,66,67,68,74] ?_; simp -dsimp [hR1, hR2, hR3, hy, hlu, hwu, hput, hs]) | (refine DT_cond rfl (fun h => ?_) (fun h => ?_) <;> (try simp only [nrm] at h) <;> (try exact Bool.noConfusion h))
   all_goals try simp -dsimp [hR1, hR2, hR3, hy, hlu, hwu, hput, hs]
   all_goals try clear hs
   exact At.round ⟨(u + 1, sputS ⟨x.links[u].drawing, x.links[u].dim⟩ L'), by omega, hL'⟩ (by simp; omega) (Weak.of_drop [0,1,3,18,19,20,25,26,27] 5 (by simp) (by simp) (by clear hR4 hR5 hR6 hR7 hR8; simp [deskC, hR1, hR2, hR3, hR9, LoopD.at_eta]))
  ·rw [List.drop_eq_nil_of_le (by omega)] at hL'
   have hLn : L' = (x.links.map spotOf).foldl (fun l x => sputS x l) L := hL'
   rw [← hLn] at hL
   have hs : True := trivial
   repeat' first | (with_reducible first | refine q01 ?_ | refine q03 ?_ | refine q04 ?_ | refine q06 ?_ | refine q11 ?_ | refine q16 ?_) | (with_reducible refine DT_regionE [0,1,2,3,4,5,6,7,8,9,10,12,18,19,20,21,25,26,27,28,37,39,50,54,56,65,66,67,68,74] ?_; simp -dsimp [hR1, hR2, hR3, hlu, hw, hs]) | (refine DT_cond rfl (fun h => ?_) (fun h => ?_) <;> (try simp only [nrm] at h) <;> (try exact Bool.noConfusion h))
   all_goals try simp -dsimp [hR1, hR2, hR3, hlu, hw, hs]
   all_goals try clear hs
   exact At.round ⟨(i + 1, L'), by omega, hL⟩ (by simp; omega) (Weak.of_keep [0,1,3,18,19,20] (by simp [deskC]))
 rw [List.drop_eq_nil_of_le (by omega)] at hL
 have hL0 : L = (spotsOf c).foldl (fun l x => sputS x l) [] := hL
 have hnd : L.Nodup := by rw [hL0]; exact foldP_nodup _ _ (by simp)
 have hs : True := trivial
 repeat' first | (with_reducible first | refine q01 ?_ | refine q03 ?_ | refine q06 ?_ | refine q11 ?_ | refine q16 ?_) | (with_reducible refine DT_regionE [0,1,2,3,4,5,6,7,8,9,10,12,18,19,20,21,25,26,27,28,37,39,50,54,56,65,66,67,68,74] ?_; simp -dsimp [hR1, hR2, hR3, hlt, hs]) | (refine DT_cond rfl (fun h => ?_) (fun h => ?_) <;> (try simp only [nrm] at h) <;> (try exact Bool.noConfusion h))
 all_goals try simp -dsimp [hR1, hR2, hR3, hlt, hs]
 all_goals try clear hs
 intro l c0 b hll hln hlc
 rw [encP_len] at hll
 have hP1 : (L.zip l).map (·.1) = L := List.map_fst_zip (by omega)
 have hP2 : (L.zip l).map (·.2) = l := List.map_snd_zip (by omega)
 have hPn : ((L.zip l).map (·.2)).Nodup := by rw [hP2]; exact hln
 generalize L.zip l = P at *
 subst hP1
 subst hP2
 have hs : True := trivial
 repeat' first | (with_reducible first | refine q01 ?_ | refine q12 ?_)
 all_goals try simp -dsimp [hR1, hR2, hR3, hs]
 all_goals try clear hs
 obtain ⟨f, hf⟩ : ∃ f, f = looseP (tkM c.reg c.lets) := ⟨_, rfl⟩
 have hR8' : ∀ objs : List DObj, (R.tm.map fun x => (x.1, fzV 6 objs x.2)) = R.tm := by intro objs; rw [hR5]; simp
 have hR4' : ∀ objs : List DObj, (R.tm.map fun x => (x.1, fzV 4 objs x.2)) = R.tm := by intro objs; rw [hR5]; simp
 refine DT_stop ⟨76, [(0, .one (.yld 3)), (1, .one (.im (.ip [deskC c D (tkM c.reg c.lets)]))), (3, .one (.im (.mp [.int .i64, .int .i64] (encPI ((P.map (·.1)).filter f)))))], [.row [.vec 2 0 0 0], .vec 2 [] 0 true, .vec 0 [] 0 true, .loop R]⟩ ?_ ?_
 refine DT_loop (ι := { p : List Nat × List Nat × List Spot // p.2.1 = (leftP f P p.1).map (·.2) ∧ p.2.2 = (leftP f P p.1).map (·.1) }) (fun p => ⟨76, [(0, .one (.yld 3)), (1, .one (.im (.ip [deskC c D (tkM c.reg c.lets)]))), (3, .one (.map 4)), (37, .one (.itr 5))], [.row [.vec 2 0 0 0], .vec 2 [] 0 true, .vec 0 [] 0 true, .loop R, .map [.st p.1.2.1 c0 b, .int .i64, .int .i64] (encP p.1.2.2), .liter b p.1.1 c0]⟩) (fun p => unseen P p.1.1) ⟨([], P.map (·.2), P.map (·.1)), by simp [leftP_nil]⟩ (Weak.of_keep [0,1,3,37] (by simp [deskC])) ?_
 rintro ⟨⟨seen, l, K⟩, hl, hK⟩
 simp only at hl hK
 simp only [deskC]
 have hs : True := trivial
 repeat' first | (with_reducible first | refine q01 ?_ | refine q03 ?_ | refine q06 ?_ | refine q11 ?_ | refine q16 ?_) | (with_reducible refine DT_regionE [0,1,2,3,4,5,6,7,8,9,10,12,18,19,20,21,25,26,27,28,37,39,50,54,56,65,66,67,68,74] ?_; simp -dsimp [hR1, hR2, hR3, hs]) | (refine DT_cond rfl (fun h => ?_) (fun h => ?_) <;> (try simp only [nrm] at h) <;> (try exact Bool.noConfusion h)) | (with_reducible refine imp_At (fun h => ?_); (try simp only [List.map_eq_nil_iff] at h); (try subst h); try simp -dsimp [hR1, hR2, hR3, hs]) | with_reducible refine And.intro ?_ ?_
 all_goals try simp -dsimp [hR1, hR2, hR3, hs]
 all_goals try clear hs
 ·have hend : K = (P.map (·.1)).filter f := by rw [hK]; exact leftP_end (by rw [← hl]; assumption)
  have hKn : K.Nodup := by rw [hend]; exact hnd.filter _
  exact ⟨rfl, Weak.of_drop [0,1,3] 4 (by simp) (by simp) (by clear hR4 hR5 hR6 hR7 hR8; simp [deskC, hend, hR1, hR2, hR3, hR4', LoopD.at_eta])⟩
 ·intro i s xa xb hx hs1 hns
  obtain ⟨y, hy, rfl, rfl⟩ := encP_get2 hx
  have hgP : (leftP f P seen)[i]? = some (y, s) := by
   rw [hK, List.getElem?_map, Option.map_eq_some_iff] at hy
   rw [hl, List.getElem?_map, Option.map_eq_some_iff] at hs1
   obtain ⟨p, hp1, hp2⟩ := hy
   obtain ⟨q, hq1, hq2⟩ := hs1
   rw [hp1] at hq1
   cases hq1
   rw [hp1, ← hp2, ← hq2]
  have hmem : (y, s) ∈ P := (List.mem_filter.1 (List.mem_of_getElem? hgP)).1
  have hlt2 := unseen_lt hmem hns
  have hln2 : l.Nodup := by rw [hl]; exact (hPn.sublist ((List.filter_sublist).map _))
  have hKn : K.Nodup := by rw [hK]; exact (hnd.sublist ((List.filter_sublist).map _))
  have hidx := idxOf_nodup hln2 hs1
  have hmi := midx_P hKn hy
  have hmd := mdel_P hKn hy
  by_cases hk3 : (mlookS (tkM c.reg c.lets) y.drawing).kind = 3
  ·have hfy : f y = false := by rw [hf]; simp [looseP, hk3]
   have hd := leftP_del (f := f) hPn hgP hfy
   have hl2 : l.eraseIdx i = (leftP f P (seen ++ [s])).map (·.2) := by rw [hd, map_eraseIdx, ← hl]
   have hK2 : K.eraseIdx i = (leftP f P (seen ++ [s])).map (·.1) := by rw [hd, map_eraseIdx, ← hK]
   have hs : True := trivial
   repeat' first | (with_reducible first | refine q01 ?_ | refine q04 ?_ | refine q11 ?_ | refine q12 ?_ | refine q14 ?_) | (refine DT_regionM (id := 13) (nt := 76) 9 [0,1,3,5,7,8,9,10,12,18,19,20,21,25,26,27,28,37,39,50,54,56,65,66,67,68,74] mixed rfl (by kernel_rfl) ?_; simp -dsimp [hR1, hR2, hR3, hx, hidx, hk3, hmi, hmd, hs]) | (with_reducible refine DT_regionE [0,1,2,3,4,5,6,7,8,9,10,12,18,19,20,21,25,26,27,28,37,39,50,54,56,65,66,67,68,74] ?_; simp -dsimp [hR1, hR2, hR3, hx, hidx, hk3, hmi, hmd, hs]) | (refine DT_cond rfl (fun h => ?_) (fun h => ?_) <;> (try simp only [nrm] at h) <;> (try exact Bool.noConfusion h))
   all_goals try simp -dsimp [hR1, hR2, hR3, hx, hidx, hk3, hmi, hmd, hs]
   all_goals try clear hs
   exact At.round ⟨(seen ++ [s], l.eraseIdx i, K.eraseIdx i), hl2, hK2⟩ hlt2 (Weak.of_drop [0,1,3,37] 6 (by simp) (by simp) (by clear hR4 hR5 hR6 hR7 hR8; simp [deskC, hR1, hR2, hR3, hR8', LoopD.at_eta]))
  ·have hfy : f y = true := by rw [hf]; simp [looseP, hk3]
   have hd := leftP_keep (f := f) (seen := seen) hPn hmem hfy
   have hl2 : l = (leftP f P (seen ++ [s])).map (·.2) := by rw [hd, ← hl]
   have hK2 : K = (leftP f P (seen ++ [s])).map (·.1) := by rw [hd, ← hK]
   have hs : True := trivial
   repeat' first | (with_reducible first | refine q01 ?_ | refine q04 ?_ | refine q11 ?_ | refine q12 ?_ | refine q14 ?_) | (refine DT_regionM (id := 13) (nt := 76) 9 [0,1,3,5,7,8,9,10,12,18,19,20,21,25,26,27,28,37,39,50,54,56,65,66,67,68,74] mixed rfl (by kernel_rfl) ?_; simp -dsimp [hR1, hR2, hR3, hx, hidx, hk3, hmi, hmd, hs]) | (with_reducible refine DT_regionE [0,1,2,3,4,5,6,7,8,9,10,12,18,19,20,21,25,26,27,28,37,39,50,54,56,65,66,67,68,74] ?_; simp -dsimp [hR1, hR2, hR3, hx, hidx, hk3, hmi, hmd, hs]) | (refine DT_cond rfl (fun h => ?_) (fun h => ?_) <;> (try simp only [nrm] at h) <;> (try exact Bool.noConfusion h))
   all_goals try simp -dsimp [hR1, hR2, hR3, hx, hidx, hk3, hmi, hmd, hs]
   all_goals try clear hs
   exact At.round ⟨(seen ++ [s], l, K), hl2, hK2⟩ hlt2 (Weak.of_drop [0,1,3,37] 6 (by simp) (by simp) (by clear hR4 hR5 hR6 hR7 hR8; simp [deskC, hR1, hR2, hR3, hR8', LoopD.at_eta]))
 have hKn : ((P.map (·.1)).filter f).Nodup := hnd.filter _
 have hKf : (P.map (·.1)).filter f = ((spotsOf c).foldl (fun l x => sputS x l) []).filter (looseP (tkM c.reg c.lets)) := by rw [hL0, hf]
 have hKl : ((P.map (·.1)).filter f).length ≤ 1000 := by
  have h1 := List.length_filter_le f (P.map (·.1))
  have h2 := foldP_len (spotsOf c) []
  have h3 := spots_len c.loops hsm.2.2.2
  have h4 := hsm.2.2.1
  rw [← hL0] at h2
  simp only [spotsOf, List.length_nil] at h2
  omega
 generalize (P.map (·.1)).filter f = K at *
 have hs : True := trivial
 repeat' first | (with_reducible first | refine q01 ?_ | refine q11 ?_ | refine q12 ?_) | (with_reducible refine DT_regionE [0,1,2,3,4,5,6,7,8,9,10,12,18,19,20,21,25,26,27,28,37,39,50,54,56,65,66,67,68,74] ?_; simp -dsimp [hR1, hR2, hR3, hs])
 all_goals try simp -dsimp [hR1, hR2, hR3, hs]
 all_goals try clear hs
 refine DT_loop (ι := { p : List Spot × Option (List Value × List IC) × Nat × Bool × List Spot // (p.2.2.2.2 ++ p.1).Perm K }) (fun p => ⟨76, [(0, .one (.yld 3)), (9, .one (.vec 4 p.1.2.2.1 0 p.1.2.2.2.2.length)), (54, .one (.itr 5))], [.row [.vec 2 0 0 0], .vec 2 [] 0 true, .vec 0 [] 0 true, .loop R, .vec 2 (ims (p.1.2.2.2.2.map encSpot)) p.1.2.2.1 p.1.2.2.2.1, .iter (encPI p.1.1) p.1.2.1]⟩) (fun p => p.1.1.length) ⟨(K, none, 0, true, []), by simp⟩ (Weak.of_keep [0,9,54] (by simp)) ?_
 rintro ⟨⟨left, cur, gn, nl, out⟩, hpm⟩
 simp only at hpm
 have hol : out.length + left.length ≤ 1000 := by
  have := hpm.length_eq
  rw [List.length_append] at this; omega
 have hs : True := trivial
 repeat' first | (with_reducible first | refine q01 ?_ | refine q03 ?_ | refine q06 ?_ | refine q11 ?_ | refine q16 ?_) | (with_reducible refine DT_regionE [0,1,2,3,4,5,6,7,8,9,10,12,18,19,20,21,25,26,27,28,37,39,50,54,56,65,66,67,68,74] ?_; simp -dsimp [hR1, hR2, hR3, hs]) | (refine DT_cond rfl (fun h => ?_) (fun h => ?_) <;> (try simp only [nrm] at h) <;> (try exact Bool.noConfusion h)) | (with_reducible refine imp_At (fun h => ?_); (try simp only [List.map_eq_nil_iff] at h); (try subst h); try simp -dsimp [hR1, hR2, hR3, hs]) | with_reducible refine And.intro ?_ ?_
 all_goals try simp -dsimp [hR1, hR2, hR3, hs]
 all_goals try clear hs
 ·have hl0 : left = [] := by simpa [encPI] using ‹encPI left = []›
  rw [hl0, List.append_nil] at hpm
  have hon : out.Nodup := hpm.symm.nodup hKn
  have c5 : DCall Tryz.prog G 124 [.one (.vec 0 gn 0 out.length), .one (.im (.fn (.func 85) []))] [.vec 2 (ims (out.map encSpot)) gn nl] (fun d o => d = .tup [] ∧ o = [.vec 2 (ims ((allSpots c).map encSpot)) gn nl]) :=
   (hSF out gn 2 nl (.inl rfl) (by omega)).mono fun d o ⟨h1, l', h2, h3, h4⟩ => ⟨h1, by rw [h4, spots_sorted hOk (by rw [← hKf]; exact h2.trans hpm) (sorted_of h2 hon h3)]⟩
  have hSl : out.length = (allSpots c).length := by
   have h1 := (spots_perm hOk).length_eq
   have h2 := hpm.length_eq
   rw [h1, h2, hKf]
  generalize allSpots c = S at *
  have hSl' : S.length ≤ 1000 := by omega
  have hs : True := trivial
  repeat' first | (with_reducible first | refine q01 ?_ | refine q11 ?_ | refine q12 ?_) | (refine CallE.embed [4] (c5) ?_ ?_ ?_ ?_ ?_ ?_; (focus (simp [emb]; done)); (focus (simp; done)); (focus (simp; done)); (focus (simp; done)); (focus (refine emb_all ?_; simp [emb, embAll]; done)); try simp -dsimp [mergeO, emb, hR1, hR2, hR3, hs]) | (with_reducible refine DT_regionE [0,1,2,3,4,5,6,7,8,9,10,12,18,19,20,21,25,26,27,28,37,39,50,54,56,65,66,67,68,74] ?_; simp -dsimp [hR1, hR2, hR3, hs])
  all_goals try simp -dsimp [hR1, hR2, hR3, hs]
  all_goals try clear hs
  rw [hSl]
  refine DT_loop (ι := { p : Nat × Nat × Nat × Bool // p.1 ≤ S.length ∧ (p.2.2.1 = 2 ∨ p.2.2.2 = true) }) (fun p => ⟨76, [(0, .one (.yld 3)), (65, .one (.im (.sl (S.map encSpot)))), (66, iv (S.length : Int)), (67, iv (p.1.1 : Int))], [.row [.vec 2 p.1.2.1 0 p.1.1], .vec 2 [] 0 true, .vec p.1.2.2.1 (ims ((S.take p.1.1).map encSpot)) p.1.2.1 p.1.2.2.2, .loop R]⟩) (fun p => S.length - p.1.1) ⟨(0, 0, 0, true), by simp⟩ (Weak.of_drop [0,65,66,67] 4 (by simp) (by simp) (by clear hR4 hR5 hR6 hR7 hR8; simp [hR1, hR2, hR3, hR4', LoopD.at_eta])) ?_
  rintro ⟨⟨k, gn, sz, nl⟩, hk, hz⟩
  simp only at hk hz
  simp only [iv]
  have htk : (ims ((S.map encSpot).take k)).take k = ims ((S.map encSpot).take k) := List.take_of_length_le (by simp [ims_length]; omega)
  by_cases hlt : k < S.length
  ·have hx : S[k]? = some S[k] := by simp [hlt]
   have hw : IntKind.i64.wrap ((k : Int) + 1) = ((k + 1 : Nat) : Int) := i64w (by omega) (by omega)
   have hmin : min k S.length = k := Nat.min_eq_left (by omega)
   have hsn : (S.map encSpot).take (k + 1) = (S.map encSpot).take k ++ [encSpot S[k]] := by
    rw [List.take_succ]; simp [hx]
   have hs : True := trivial
   repeat' first | (with_reducible first | refine q01 ?_ | refine q04 ?_ | refine q11 ?_ | refine q12 ?_ | refine q14 ?_ | refine And.intro (by omega) ?_) | (with_reducible refine At.yield_end ?_; simp -dsimp [hR1, hR2, hR3, hx, hw, hlt, hz, hmin, hs]) | (refine At_busy ?_ ?_ <;> simp -dsimp [hR1, hR2, hR3, hx, hw, hlt, hz, hmin, hs]) | (refine YieldE_go ?_; simp -dsimp [YieldR, hR4, hR5, hR6, hR7, hR8, hR1, hR2, hR3, hx, hw, hlt, hz, hmin, hs]) | (with_reducible refine DT_regionE [0,1,2,3,4,5,6,7,8,9,10,12,18,19,20,21,25,26,27,28,37,39,50,54,56,65,66,67,68,74] ?_; simp -dsimp [hR1, hR2, hR3, hx, hw, hlt, hz, hmin, hs]) | (refine DT_cond rfl (fun h => ?_) (fun h => ?_) <;> (try simp only [nrm] at h) <;> (try exact Bool.noConfusion h))
   all_goals try simp -dsimp [hR1, hR2, hR3, hx, hw, hlt, hz, hmin, hs]
   all_goals try clear hs
   all_goals try omega
   exact At.round ⟨(k + 1, gn + 1, 2, false), by simp; omega⟩ (by simp; omega) (Weak.of_drop [0,65,66,67] 4 (by simp) (by simp) (by clear hR4 hR5 hR6 hR7 hR8; simp [hR1, hR2, hR3, hR4', LoopD.at_eta, hsn, htk, ims_append]))
  ·have hkl : k = S.length := by omega
   subst hkl
   have hall : (S.map encSpot).take S.length = S.map encSpot := List.take_of_length_le (by simp)
   rw [hall] at htk
   have hs : True := trivial
   repeat' first | (with_reducible first | refine q01 ?_ | refine q03 ?_ | refine q04 ?_ | refine q06 ?_ | refine q11 ?_ | refine q16 ?_ | refine q17 ?_) | (with_reducible refine At.fn_ret (by simp -dsimp [hR1, hR2, hR3, hall, htk, hs]; exact rfl) ?_) | (with_reducible refine At.fn_end (by simp -dsimp [hR1, hR2, hR3, hall, htk, hs]; exact rfl) ?_) | (with_reducible show LoopR _ _ _ _ _ _ _ _; simp -dsimp [LoopR, hR1, hR2, hR3, hall, htk, hs]) | (with_reducible refine DT_regionE [0,1,2,3,4,5,6,7,8,9,10,12,18,19,20,21,25,26,27,28,37,39,50,54,56,65,66,67,68,74] ?_; simp -dsimp [hR1, hR2, hR3, hall, htk, hs]) | (refine DT_cond rfl (fun h => ?_) (fun h => ?_) <;> (try simp only [nrm] at h) <;> (try exact Bool.noConfusion h))
   all_goals try simp -dsimp [hR1, hR2, hR3, hall, htk, hs]
   all_goals try clear hs
 ·intro i xa xb hi
  obtain ⟨y, hy, rfl, rfl⟩ := encPI_get hi
  rw [encPI_erase]
  have hlen : (left.eraseIdx i).length < left.length := by
   have := lt_of_getElem? hy
   rw [List.length_eraseIdx]; split <;> omega
  have hp2 : ((out ++ [y]) ++ left.eraseIdx i).Perm K := by
   refine List.Perm.trans ?_ hpm
   rw [List.append_assoc]
   refine List.Perm.append_left _ ?_
   exact perm_erase hy
  have hs : True := trivial
  repeat' first | (with_reducible first | refine q01 ?_ | refine q04 ?_ | refine q11 ?_ | refine q12 ?_ | refine q14 ?_ | refine And.intro (by omega) ?_) | (with_reducible refine DT_regionE [0,1,2,3,4,5,6,7,8,9,10,12,18,19,20,21,25,26,27,28,37,39,50,54,56,65,66,67,68,74] ?_; simp -dsimp [hR1, hR2, hR3, hs]) | (refine DT_cond rfl (fun h => ?_) (fun h => ?_) <;> (try simp only [nrm] at h) <;> (try exact Bool.noConfusion h))
  all_goals try simp -dsimp [hR1, hR2, hR3, hs]
  all_goals try clear hs
  all_goals try omega
  exact At.round ⟨(left.eraseIdx i, some ([.int .i64 y.drawing, .int .i64 y.dim], [.raw (.bool true)]), gn + 1, false, out ++ [y]), hp2⟩ hlen (Weak.of_drop [0,9,54] 6 (by simp) (by simp) (by clear hR4 hR5 hR6 hR7 hR8; simp [hR1, hR2, hR3, hR8', LoopD.at_eta]))
end Go.Proofs
namespace Go.Proofs
open Go Go.Ab
set_option linter.unusedSimpArgs false
variable {G : Nat → Option (List IC)}
theorem in6G_c (l : List Spot) (d k : Int) (hl : l.length < 1000000) (objs : List DObj) : DCall Tryz.prog G 94 [spotsv l, refv d k] objs (fun rr objs' => rr = bv (inS l ⟨d, k⟩) ∧ objs' = objs) := by
 refine DCall.frame ?_ (by simp) (by simp) objs
 refine DCall_intro Tryz.func94 rfl Tryz.ntmps94 (by simp) rfl ?_
 try simp only [refv]
 simp only [spotsv, refv]
 have hs : True := trivial
 repeat' first | (with_reducible first | refine q01 ?_ | refine q11 ?_ | refine q12 ?_) | (with_reducible refine DT_regionE [0,1,3,4,5,9,17] ?_; simp -dsimp [hs])
 all_goals try simp -dsimp [hs]
 all_goals try clear hs
 refine DT_loop (ι := { i : Nat // i ≤ l.length ∧ inS l ⟨d, k⟩ = inS (l.drop i) ⟨d, k⟩ }) (fun p => ⟨18, [(0, .one (.im (.sl (l.map encSpot)))), (3, .one (.ptr 0 0)), (5, iv (p.1 : Int))], [.row [.im (rI d), .im (rI k)]]⟩) (fun p => l.length - p.1) ⟨0, by simp⟩ (Weak.of_keep [0,3,5] (by simp)) ?_
 rintro ⟨i, hi, ha⟩
 simp only [iv]
 by_cases hlt : i < l.length
 ·have hx : l[i]? = some l[i] := by simp [hlt]
  have hw : IntKind.i64.wrap ((i : Int) + 1) = ((i + 1 : Nat) : Int) := i64w (by omega) (by omega)
  rw [List.drop_eq_getElem_cons hlt] at ha
  have hst : inS (l[i] :: l.drop (i + 1)) ⟨d, k⟩ = (decide (l[i].drawing = d ∧ l[i].dim = k) || inS (l.drop (i + 1)) ⟨d, k⟩) := by
   rw [Bool.eq_iff_iff]
   simp only [inS, List.mem_cons, decide_eq_true_eq, Bool.or_eq_true]
   rw [show ((⟨d, k⟩ : Spot) = l[i]) = (l[i].drawing = d ∧ l[i].dim = k) from propext ⟨fun e => by rw [← e]; exact ⟨rfl, rfl⟩, fun ⟨e1, e2⟩ => by cases hq : l[i]; simp_all⟩]
  rw [hst] at ha
  generalize hxe : l[i] = x at *
  have hs : True := trivial
  repeat' first | (with_reducible first | refine q01 ?_ | refine q02 ?_ | refine q04 ?_ | refine q05 ?_ | refine q11 ?_ | refine q12 ?_ | refine q14 ?_ | refine q17 ?_) | (with_reducible refine At.fn_ret (by simp -dsimp [hx, hw, hlt, hxe, hs]; exact rfl) ?_) | (refine DT_regionM (id := 4) (nt := 18) 6 [0,1,3,4,5,9,17] mixed rfl (by kernel_rfl) ?_; simp -dsimp [hx, hw, hlt, hxe, hs]) | (with_reducible refine DT_regionE [0,1,3,4,5,9,17] ?_; simp -dsimp [hx, hw, hlt, hxe, hs]) | (refine DT_cond rfl (fun h => ?_) (fun h => ?_) <;> (try simp only [nrm] at h) <;> (try exact Bool.noConfusion h))
  all_goals try simp -dsimp [hx, hw, hlt, hxe, hs]
  all_goals try clear hs
  all_goals first
   | exact At.round ⟨i + 1, by omega, by rw [ha]; clear ha hst hx; first | (simp_all; done) | (simp; intro e1 e2; exfalso; omega)⟩ (by simp; omega) (Weak.of_keep [0,3,5] (by simp))
   | (rw [ha]; clear ha hst hx; simp_all; done)
 ·rw [List.drop_eq_nil_of_le (by omega)] at ha
  have hs : True := trivial
  repeat' first | (with_reducible first | refine q01 ?_ | refine q03 ?_ | refine q06 ?_ | refine q11 ?_ | refine q16 ?_ | refine q17 ?_) | (with_reducible refine At.fn_ret (by simp -dsimp [hlt, hs]; exact rfl) ?_) | (with_reducible refine DT_regionE [0,1,3,4,5,9,17] ?_; simp -dsimp [hlt, hs]) | (refine DT_cond rfl (fun h => ?_) (fun h => ?_) <;> (try simp only [nrm] at h) <;> (try exact Bool.noConfusion h))
  all_goals try simp -dsimp [hlt, hs]
  all_goals try clear hs
  all_goals (rw [ha]; simp [inS])
theorem rMiddle_c (d : Dim) (objs : List DObj) : DCall Tryz.prog G 48 [dimv d] objs (fun rr objs' => rr = iv (midD d) ∧ objs' = objs) := by
 refine DCall.frame ?_ (by simp) (by simp) objs
 refine DCall_intro Tryz.func48 rfl Tryz.ntmps48 (by simp) rfl ?_
 try simp only [dimv]
 have hs : True := trivial
 repeat' first | (with_reducible first | refine q01 ?_ | refine q11 ?_ | refine q17 ?_) | (with_reducible refine At.fn_ret (by simp -dsimp [hs]; exact rfl) ?_) | (with_reducible refine DT_regionE [0,1,2] ?_; simp -dsimp [hs])
 all_goals try simp -dsimp [hs]
 all_goals try clear hs
 simp [midD]
theorem rTight_c (d : Dim) (g : Int) (hd : dimOk d = true) (h0 : 0 ≤ g) (h1 : g ≤ 2000000000) (objs : List DObj) : DCall Tryz.prog G 57 [dimv d, iv g] objs (fun rr objs' => rr = dimv (tightD d g) ∧ objs' = objs) := by
 refine DCall.frame ?_ (by simp) (by simp) objs
 refine DCall_intro Tryz.func57 rfl Tryz.ntmps57 (by simp) rfl ?_
 try simp only [dimv, iv]
 have c1 := rMiddle_c (G := G) d
 have hdl := (dimOk_iff d).1 hd
 have hm : 0 ≤ midD d ∧ midD d ≤ 1000000000 := by unfold midD; omega
 have hw1 : IntKind.i64.wrap (midD d - g) = midD d - g := i64w (by omega) (by omega)
 have hw2 : IntKind.i64.wrap (midD d + g) = midD d + g := i64w (by omega) (by omega)
 simp only [dimv, encDim, List.map_cons, List.map_nil] at c1
 have hs : True := trivial
 repeat' first | (with_reducible first | refine q01 ?_ | refine q11 ?_ | refine q17 ?_) | (with_reducible refine At.fn_ret (by simp -dsimp [hw1, hw2, hs]; exact rfl) ?_) | (refine CallE.pure (c1) ?_; try simp -dsimp [hw1, hw2, hs]) | (with_reducible refine DT_regionE [0,1,2,4,5] ?_; simp -dsimp [hw1, hw2, hs])
 all_goals try simp -dsimp [hw1, hw2, hs]
 all_goals try clear hs
 all_goals simp [tightD]
set_option maxHeartbeats 1000000 in
theorem rsizesG_c (c : Chains) (l : List Spot) (g : Int) (n : Nat) (hn : n < c.loops.length) (hs : SmallC c) (h : OkC c) (hl : l.length < 1000000) (hg0 : 0 ≤ g) (hg1 : g ≤ 2000000000) (objs : List DObj) : DCall Tryz.prog G 71 [chv c, iv (n : Int), spotsv l, iv g] objs (fun rr objs' => rr = .one (.im (.sl ((szT c (inS l) g c.loops[n]).map encDim))) ∧ objs' = objs) := by
 refine DCall.frame ?_ (by simp) (by simp) objs
 refine DCall_intro Tryz.func71 rfl Tryz.ntmps71 (by simp) rfl ?_
 try simp only [chv, iv, iv]
 have hx : c.loops[n]? = some c.loops[n] := by simp [hn]
 have hln := h.gap c.loops[n] (List.getElem_mem hn)
 have hll : c.lets.length = (nums c.reg).length := by
  have := h.lets
  simp only [lettersI, Bool.and_eq_true, decide_eq_true_eq] at this; exact this.1
 have hreg := hs.1.1
 have hok := fun y hy => dimAt_ok h (List.getElem_mem hn) (y := y) hy
 have hlk := h.link c.loops[n] (List.getElem_mem hn)
 have hE : szT c (inS l) g c.loops[n] = c.loops[n].links.map (dimT c (inS l) g) := rfl
 simp only [spotsv]
 have hs : True := trivial
 repeat' first | (with_reducible first | refine q01 ?_ | refine q11 ?_ | refine q12 ?_) | (with_reducible refine DT_regionE [0,1,2,3,4,8,9,10,11,12,22,37] ?_; simp -dsimp [hx, hn, hs])
 all_goals try simp -dsimp [hx, hn, hs]
 all_goals try clear hs
 generalize hls : c.loops[n].links = ls at *
 refine DT_loop (ι := { p : Nat × Nat × Bool × List Dim // p.1 ≤ ls.length ∧ p.2.2.2 = (ls.take p.1).map (dimT c (inS l) g) }) (fun p => ⟨46, [(2, .one (.im (.sl (l.map encSpot)))), (3, iv g), (4, .one (.ptr 0 0)), (9, .one (.vec 2 p.1.2.1 0 p.1.2.2.2.length)), (10, .one (.im (.sl (ls.map encLink)))), (11, iv (p.1.1 : Int))], [.row ((encChains c).map .im), .vec 3 [] 0 true, .vec 3 (ims (p.1.2.2.2.map encDim)) p.1.2.1 p.1.2.2.1]⟩) (fun p => ls.length - p.1.1) ⟨(0, 0, true, []), by simp⟩ (Weak.of_keep [2,3,4,9,10,11] (by simp)) ?_
 rintro ⟨⟨k, gn, nl, out⟩, hk, ho⟩
 simp only at hk ho
 simp only [iv]
 have hol : out.length = k := by rw [ho]; simp; omega
 by_cases hlt : k < ls.length
 ·have hy : ls[k]? = some ls[k] := by simp [hlt]
  have hw : IntKind.i64.wrap ((k : Int) + 1) = ((k + 1 : Nat) : Int) := i64w (by omega) (by omega)
  obtain ⟨l1, l2, l3⟩ := hlk ls[k] (List.getElem_mem hlt)
  obtain ⟨hdo, he⟩ := hok ls[k] (List.getElem_mem hlt)
  have c1 := sizeOf_c (G := G) c ls[k] (dimAt c ls[k]) (by omega) l1 hll l2 he
  have c2 := spotOf_c (G := G) ls[k]
  have c3 := in6G_c (G := G) l ls[k].drawing ls[k].dim hl
  have c4 := rTight_c (G := G) (dimAt c ls[k]) g hdo hg0 hg1
  simp only [refv, spotsv] at c2 c3
  simp only [dimv, encDim, List.map_cons, List.map_nil] at c4
  have hon : out ++ [dimT c (inS l) g ls[k]] = (ls.take (k + 1)).map (dimT c (inS l) g) := by rw [List.take_succ_eq_append_getElem hlt, List.map_append, ho]; rfl
  have hdT : dimT c (inS l) g ls[k] = if inS l ⟨ls[k].drawing, ls[k].dim⟩ then tightD (dimAt c ls[k]) g else dimAt c ls[k] := rfl
  cases hq : inS l ⟨ls[k].drawing, ls[k].dim⟩
  all_goals rw [hq] at hdT c3
  all_goals simp only [Bool.false_eq_true, if_false, if_true] at hdT
  all_goals rw [hdT] at hon
  ·have hs : True := trivial
   repeat' first | (with_reducible first | refine q01 ?_ | refine q04 ?_ | refine q11 ?_ | refine q12 ?_ | refine q14 ?_ | refine And.intro (by omega) ?_) | (refine QCall_pure (c1) ?_; try simp -dsimp [hy, hw, hlt, hs]) | (refine CallE.pure (c2) ?_; try simp -dsimp [hy, hw, hlt, hs]) | (refine CallE.pure (c3) ?_; try simp -dsimp [hy, hw, hlt, hs]) | (refine DT_regionX (id := 6) (nt := 46) 7 [] [0,1,2,3,4,8,9,10,11,12,22,25,26,27,28,29,30,37] [0,1,2,3,4,8,9,10,11,12,22,37] mixed rfl (by kernel_rfl) ?_; simp -dsimp [hy, hw, hlt, hs]) | (with_reducible refine DT_regionE [0,1,2,3,4,8,9,10,11,12,22,37] ?_; simp -dsimp [hy, hw, hlt, hs]) | (refine DT_cond rfl (fun h => ?_) (fun h => ?_) <;> (try simp only [nrm] at h) <;> (try exact Bool.noConfusion h))
   all_goals try simp -dsimp [hy, hw, hlt, hs]
   all_goals try clear hs
   all_goals try omega
   exact At.round ⟨(k + 1, gn + 1, false, out ++ [dimAt c ls[k]]), by omega, hon⟩ (by simp; omega) (Weak.of_drop [2,3,4,9,10,11] 3 (by simp) (by simp) (by simp))
  ·have hs : True := trivial
   repeat' first | (with_reducible first | refine q01 ?_ | refine q04 ?_ | refine q11 ?_ | refine q12 ?_ | refine q14 ?_ | refine And.intro (by omega) ?_) | (refine QCall_pure (c1) ?_; try simp -dsimp [hy, hw, hlt, hs]) | (refine CallE.pure (c2) ?_; try simp -dsimp [hy, hw, hlt, hs]) | (refine CallE.pure (c3) ?_; try simp -dsimp [hy, hw, hlt, hs]) | (refine CallE.pure (c4) ?_; try simp -dsimp [hy, hw, hlt, hs]) | (refine DT_regionX (id := 6) (nt := 46) 7 [] [0,1,2,3,4,8,9,10,11,12,22,25,26,27,28,29,30,37] [0,1,2,3,4,8,9,10,11,12,22,37] mixed rfl (by kernel_rfl) ?_; simp -dsimp [hy, hw, hlt, hs]) | (with_reducible refine DT_regionE [0,1,2,3,4,8,9,10,11,12,22,37] ?_; simp -dsimp [hy, hw, hlt, hs]) | (refine DT_cond rfl (fun h => ?_) (fun h => ?_) <;> (try simp only [nrm] at h) <;> (try exact Bool.noConfusion h))
   all_goals try simp -dsimp [hy, hw, hlt, hs]
   all_goals try clear hs
   all_goals try omega
   exact At.round ⟨(k + 1, gn + 1, false, out ++ [tightD (dimAt c ls[k]) g]), by omega, hon⟩ (by simp; omega) (Weak.of_drop [2,3,4,9,10,11] 3 (by simp) (by simp) (by simp))
 ·have hs : True := trivial
  repeat' first | (with_reducible first | refine q01 ?_ | refine q03 ?_ | refine q06 ?_ | refine q11 ?_ | refine q16 ?_ | refine q17 ?_) | (with_reducible refine At.fn_ret (by simp -dsimp [hlt, hs]; exact rfl) ?_) | (with_reducible refine DT_regionE [0,1,2,3,4,8,9,10,11,12,22,37] ?_; simp -dsimp [hlt, hs]) | (refine DT_cond rfl (fun h => ?_) (fun h => ?_) <;> (try simp only [nrm] at h) <;> (try exact Bool.noConfusion h))
  all_goals try simp -dsimp [hlt, hs]
  all_goals try clear hs
  all_goals try omega
  rw [hE, ho, List.take_of_length_le (by omega)]
theorem rreachG_c (c : Chains) (l : List Spot) (g : Int) (n : Nat) (hn : n < c.loops.length) (hs : SmallC c) (h : OkC c) (hl : l.length < 1000000) (hg0 : 0 ≤ g) (hg1 : g ≤ 2000000000) (objs : List DObj) : DCall Tryz.prog G 83 [chv c, iv (n : Int), spotsv l, iv g] objs (fun rr objs' => rr = refv (loT c (inS l) g c.loops[n]) (hiT c (inS l) g c.loops[n]) ∧ objs' = objs) := by
 refine DCall.frame ?_ (by simp) (by simp) objs
 refine DCall_intro Tryz.func83 rfl Tryz.ntmps83 (by simp) rfl ?_
 try simp only [chv, iv, iv]
 have hx : c.loops[n]? = some c.loops[n] := by simp [hn]
 have c1 := rsizesG_c (G := G) c l g n hn hs h hl hg0 hg1
 obtain ⟨hsl, hsd⟩ := szT_ok h (so := inS l) hg0 (List.getElem_mem hn)
 have hln := (h.gap c.loops[n] (List.getElem_mem hn)).1
 have c2 := ends_c (G := G) c.loops[n].links (szT c (inS l) g c.loops[n]) false (by omega) hsl hsd
 have c3 := ends_c (G := G) c.loops[n].links (szT c (inS l) g c.loops[n]) true (by omega) hsl hsd
 have h1 : loT c (inS l) g c.loops[n] = endS c.loops[n].links (szT c (inS l) g c.loops[n]) false := rfl
 have h2' : hiT c (inS l) g c.loops[n] = endS c.loops[n].links (szT c (inS l) g c.loops[n]) true := rfl
 rw [← h1] at c2
 rw [← h2'] at c3
 simp only [spotsv] at c1
 clear h1 h2'
 generalize loT c (inS l) g c.loops[n] = a at *
 generalize hiT c (inS l) g c.loops[n] = b at *
 simp only [spotsv]
 have hs : True := trivial
 repeat' first | (with_reducible first | refine q01 ?_ | refine q11 ?_ | refine q17 ?_) | (with_reducible refine At.fn_ret (by simp -dsimp [hx, hn, hs]; exact rfl) ?_) | (refine CallE.pure (c1) ?_; try simp -dsimp [hx, hn, hs]) | (refine CallE.pure (c2) ?_; try simp -dsimp [hx, hn, hs]) | (refine CallE.pure (c3) ?_; try simp -dsimp [hx, hn, hs]) | (with_reducible refine DT_regionE [0,1,2,3,4,8,9,11,13] ?_; simp -dsimp [hx, hn, hs])
 all_goals try simp -dsimp [hx, hn, hs]
 all_goals try clear hs
theorem rclosesG_c (c : Chains) (l : List Spot) (g : Int) (n : Nat) (hn : n < c.loops.length) (hs : SmallC c) (h : OkC c) (hl : l.length < 1000000) (hg0 : 0 ≤ g) (hg1 : g ≤ 2000000000) (objs : List DObj) : DCall Tryz.prog G 75 [chv c, iv (n : Int), spotsv l, iv g] objs (fun rr objs' => rr = bv (closesT c (inS l) g c.loops[n]) ∧ objs' = objs) := by
 refine DCall.frame ?_ (by simp) (by simp) objs
 refine DCall_intro Tryz.func75 rfl Tryz.ntmps75 (by simp) rfl ?_
 try simp only [chv, iv, iv]
 have hx : c.loops[n]? = some c.loops[n] := by simp [hn]
 have c1 := rreachG_c (G := G) c l g n hn hs h hl hg0 hg1
 have hE : closesT c (inS l) g c.loops[n] = (decide (c.loops[n].lo ≤ loT c (inS l) g c.loops[n]) && decide (hiT c (inS l) g c.loops[n] ≤ c.loops[n].hi)) := rfl
 generalize closesT c (inS l) g c.loops[n] = r at *
 generalize loT c (inS l) g c.loops[n] = a at *
 generalize hiT c (inS l) g c.loops[n] = b at *
 simp only [spotsv, refv] at c1
 simp only [spotsv]
 have hs : True := trivial
 repeat' first | (with_reducible first | refine q01 ?_ | refine q11 ?_ | refine q17 ?_) | (with_reducible refine At.fn_ret (by simp -dsimp [hx, hn, hs]; exact rfl) ?_) | (refine QCall_pure (c1) ?_; try simp -dsimp [hx, hn, hs]) | (refine DT_regionX (id := 1) (nt := 34) 13 [5,6,7,8,9,10] [0,1,2,3,4,8,9,10,11,12,13,14,15] [0,1,2,3,4,8,9,10] mixed rfl (by kernel_rfl) ?_; simp -dsimp [hx, hn, hs]) | (with_reducible refine DT_regionE [0,1,2,3,4,8,9,10] ?_; simp -dsimp [hx, hn, hs]) | (with_reducible refine GStop_split ?_ ?_ <;> intro h <;> have h0 := h <;> (try simp only [nrm] at h) <;> (try exact Bool.noConfusion h) <;> have h2 := h <;> (try simp at h2) <;> (replace hs := And.intro h0 (And.intro h (And.intro h2 hs))) <;> simp -dsimp [h0, h, h2, hx, hn, hs])
 all_goals try simp -dsimp [hx, hn, hs]
 all_goals try clear hs
 all_goals simp_all
theorem inS_nil : inS [] = neverS := by funext x; simp [inS, neverS]
set_option maxHeartbeats 1000000 in
theorem rWorst_c (c : Chains) (n : Int) (high : Bool) (hs : SmallC c) (objs : List DObj) : DCall Tryz.prog G 18 [chv c, iv n, bv high] objs (fun rr objs' => rr = .tup [isv (worstR c n high), iv (loopsE c n)] ∧ objs' = objs) := by
 refine DCall.frame ?_ (by simp) (by simp) objs
 refine DCall_intro Tryz.func18 rfl Tryz.ntmps18 (by simp) rfl ?_
 try simp only [chv, iv, bv]
 have c1 := asked6_c (G := G) c n hs
 by_cases hE : loopsE c n = 0
 ·obtain ⟨h0, k, rfl, hk⟩ := loopsE_zero hE
  have h := okC h0
  have hx : c.loops[k]? = some c.loops[k] := by simp [hk]
  have c2 := rsizes_c (G := G) c k hk hs h
  obtain ⟨hsl, hsd⟩ := sizes_ok h hk
  have hln := (h.gap c.loops[k] (List.getElem_mem hk)).1
  have c3 := ends_c (G := G) c.loops[k].links (sizesI c c.loops[k]) high (by omega) hsl hsd
  rw [worstR, if_pos hE, lpAt_at hk]
  generalize endsL c.loops[k].links (sizesI c c.loops[k]) high = out at *
  rw [hE] at c1
  simp only [isv] at c3
  have hs : True := trivial
  repeat' first | (with_reducible first | refine q01 ?_ | refine q11 ?_ | refine q14 ?_ | refine q17 ?_) | (with_reducible refine At.fn_ret (by simp -dsimp [hx, hk, hs]; exact rfl) ?_) | (refine CallE.pure (c1) ?_; try simp -dsimp [hx, hk, hs]) | (refine QCall_pure (c2) ?_; try simp -dsimp [hx, hk, hs]) | (refine QCall_pure (c3) ?_; try simp -dsimp [hx, hk, hs]) | (refine DT_regionM (id := 4) (nt := 32) 16 [0,1,2,3,6,7,8,9,15] mixed rfl (by kernel_rfl) ?_; simp -dsimp [hx, hk, hs]) | (with_reducible refine DT_regionE [0,1,2,3,6,7,8,9,15] ?_; simp -dsimp [hx, hk, hs]) | (refine DT_cond rfl (fun h => ?_) (fun h => ?_) <;> (try simp only [nrm] at h) <;> (try exact Bool.noConfusion h))
  all_goals try simp -dsimp [hx, hk, hs]
  all_goals try clear hs
  all_goals simp [hE]
 ·rw [worstR, if_neg hE]
  have hs : True := trivial
  repeat' first | (with_reducible first | refine q01 ?_ | refine q02 ?_ | refine q11 ?_ | refine q17 ?_) | (with_reducible refine At.fn_ret (by simp -dsimp [hE, hs]; exact rfl) ?_) | (refine CallE.pure (c1) ?_; try simp -dsimp [hE, hs]) | (with_reducible refine DT_regionE [0,1,2,3,6,7,8,9,15] ?_; simp -dsimp [hE, hs]) | (refine DT_cond rfl (fun h => ?_) (fun h => ?_) <;> (try simp only [nrm] at h) <;> (try exact Bool.noConfusion h))
  all_goals try simp -dsimp [hE, hs]
  all_goals try clear hs
set_option maxHeartbeats 1000000 in
theorem rShares_c (c : Chains) (n : Int) (hs : SmallC c) (objs : List DObj) : DCall Tryz.prog G 20 [chv c, iv n] objs (fun rr objs' => rr = .tup [isv (sharesR c n), iv (loopsE c n)] ∧ objs' = objs) := by
 refine DCall.frame ?_ (by simp) (by simp) objs
 refine DCall_intro Tryz.func20 rfl Tryz.ntmps20 (by simp) rfl ?_
 try simp only [chv, iv]
 have c1 := asked6_c (G := G) c n hs
 by_cases hE : loopsE c n = 0
 ·obtain ⟨h0, k, rfl, hk⟩ := loopsE_zero hE
  have h := okC h0
  have c2 := rsizes_c (G := G) c k hk hs h
  obtain ⟨hsl, hsd⟩ := sizes_ok h hk
  have hln := (h.gap c.loops[k] (List.getElem_mem hk)).1
  rw [sharesR, if_pos hE, lpAt_at hk]
  generalize sizesI c c.loops[k] = ds at *
  rw [hE] at c1
  have hs : True := trivial
  repeat' first | (with_reducible first | refine q01 ?_ | refine q11 ?_ | refine q12 ?_ | refine q14 ?_) | (refine CallE.pure (c1) ?_; try simp -dsimp [hs]) | (refine CallE.pure (c2) ?_; try simp -dsimp [hs]) | (with_reducible refine DT_regionE [0,1,2,4,5,6,7,8,9,14,22] ?_; simp -dsimp [hs]) | (refine DT_cond rfl (fun h => ?_) (fun h => ?_) <;> (try simp only [nrm] at h) <;> (try exact Bool.noConfusion h))
  all_goals try simp -dsimp [hs]
  all_goals try clear hs
  refine DT_loop (ι := { p : Nat × Nat × Bool × List Int // p.1 ≤ ds.length ∧ p.2.2.2 = (ds.take p.1).map fun d => d.upper - d.lower }) (fun p => ⟨40, [(7, .one (.vec 2 p.1.2.1 0 p.1.2.2.2.length)), (8, .one (.im (.sl (ds.map encDim)))), (9, iv (p.1.1 : Int))], [.row ((encChains c).map .im), .vec 1 [] 0 true, .vec 1 (ims (p.1.2.2.2.map encI)) p.1.2.1 p.1.2.2.1]⟩) (fun p => ds.length - p.1.1) ⟨(0, 0, true, []), by simp⟩ (Weak.of_keep [7,8,9] (by simp)) ?_
  rintro ⟨⟨i, gn, nl, out⟩, hi, ho⟩
  simp only at hi ho
  simp only [iv]
  have hol : out.length = i := by rw [ho]; simp; omega
  by_cases hlt : i < ds.length
  ·have hy : ds[i]? = some ds[i] := by simp [hlt]
   have hw : IntKind.i64.wrap ((i : Int) + 1) = ((i + 1 : Nat) : Int) := i64w (by omega) (by omega)
   have hd := (dimOk_iff _).1 (hsd ds[i] (List.getElem_mem hlt))
   have hwd : IntKind.i64.wrap (ds[i].upper - ds[i].lower) = ds[i].upper - ds[i].lower := i64w (by omega) (by omega)
   have hon : out ++ [ds[i].upper - ds[i].lower] = (ds.take (i + 1)).map fun d => d.upper - d.lower := by rw [List.take_succ_eq_append_getElem hlt, List.map_append, ho]; rfl
   have hs : True := trivial
   repeat' first | (with_reducible first | refine q01 ?_ | refine q04 ?_ | refine q11 ?_ | refine q12 ?_ | refine q14 ?_ | refine And.intro (by omega) ?_) | (refine DT_regionM (id := 9) (nt := 40) 13 [0,1,2,4,5,6,7,8,9,14,22] mixed rfl (by kernel_rfl) ?_; simp -dsimp [hy, hw, hlt, hwd, hs]) | (with_reducible refine DT_regionE [0,1,2,4,5,6,7,8,9,14,22] ?_; simp -dsimp [hy, hw, hlt, hwd, hs]) | (refine DT_cond rfl (fun h => ?_) (fun h => ?_) <;> (try simp only [nrm] at h) <;> (try exact Bool.noConfusion h))
   all_goals try simp -dsimp [hy, hw, hlt, hwd, hs]
   all_goals try clear hs
   all_goals try omega
   exact At.round ⟨(i + 1, gn + 1, false, out ++ [ds[i].upper - ds[i].lower]), by omega, hon⟩ (by simp; omega) (Weak.of_drop [7,8,9] 3 (by simp) (by simp) (by simp))
  ·rw [List.take_of_length_le (by omega)] at ho
   have hs : True := trivial
   repeat' first | (with_reducible first | refine q01 ?_ | refine q03 ?_ | refine q06 ?_ | refine q11 ?_ | refine q16 ?_ | refine q17 ?_) | (with_reducible refine At.fn_ret (by simp -dsimp [hlt, hs]; exact rfl) ?_) | (with_reducible refine DT_regionE [0,1,2,4,5,6,7,8,9,14,22] ?_; simp -dsimp [hlt, hs]) | (refine DT_cond rfl (fun h => ?_) (fun h => ?_) <;> (try simp only [nrm] at h) <;> (try exact Bool.noConfusion h))
   all_goals try simp -dsimp [hlt, hs]
   all_goals try clear hs
   all_goals try omega
   all_goals simp [ho, hE]
 ·rw [sharesR, if_neg hE]
  have hs : True := trivial
  repeat' first | (with_reducible first | refine q01 ?_ | refine q02 ?_ | refine q11 ?_ | refine q17 ?_) | (with_reducible refine At.fn_ret (by simp -dsimp [hE, hs]; exact rfl) ?_) | (refine CallE.pure (c1) ?_; try simp -dsimp [hE, hs]) | (with_reducible refine DT_regionE [0,1,2,4,5,6,7,8,9,14,22] ?_; simp -dsimp [hE, hs]) | (refine DT_cond rfl (fun h => ?_) (fun h => ?_) <;> (try simp only [nrm] at h) <;> (try exact Bool.noConfusion h))
  all_goals try simp -dsimp [hE, hs]
  all_goals try clear hs
set_option maxHeartbeats 1000000 in
theorem rWrong_c (c : Chains) (hs : SmallC c) (objs : List DObj) : DCall Tryz.prog G 23 [chv c] objs (fun rr objs' => rr = .tup [isv (wrongR c), iv (chainsE c)] ∧ objs' = objs) := by
 refine DCall.frame ?_ (by simp) (by simp) objs
 refine DCall_intro Tryz.func23 rfl Tryz.ntmps23 (by simp) rfl ?_
 try simp only [chv]
 have c1 := rChCheck_c (G := G) c hs
 by_cases h0 : chainsE c = 0
 ·have h := okC h0
  have hl := hs.2.2.1
  have c2 := fun k (hk : k < c.loops.length) => rclosesG_c (G := G) c [] 0 k hk hs h (by simp) (by decide) (by decide)
  rw [h0] at c1
  rw [wrongR, if_pos h0, h0]
  rw [inS_nil] at c2
  have hws := wrongTo_succ c neverS 0
  have hba := fun k (hk : k < c.loops.length) => badT_at (c := c) (so := neverS) (g := 0) hk
  have hI : wrongI c = (wrongTo c neverS 0 c.loops.length).map fun i : Nat => (i : Int) := rfl
  generalize wrongI c = W at *
  have hs : True := trivial
  repeat' first | (with_reducible first | refine q01 ?_ | refine q11 ?_ | refine q12 ?_ | refine q14 ?_) | (refine CallE.pure (c1) ?_; try simp -dsimp [hs]) | (with_reducible refine DT_regionE [0,1,2,3,4,5,6,10,16,22] ?_; simp -dsimp [hs]) | (refine DT_cond rfl (fun h => ?_) (fun h => ?_) <;> (try simp only [nrm] at h) <;> (try exact Bool.noConfusion h))
  all_goals try simp -dsimp [hs]
  all_goals try clear hs
  refine DT_loop (ι := { p : Nat × Nat × Bool × List Int // p.1 ≤ c.loops.length ∧ p.2.2.2 = (wrongTo c neverS 0 p.1).map fun i : Nat => (i : Int) }) (fun p => ⟨28, [(1, .one (.ptr 0 0)), (5, .one (.vec 2 p.1.2.1 0 p.1.2.2.2.length)), (6, iv (p.1.1 : Int))], [.row ((encChains c).map .im), .vec 1 [] 0 true, .vec 1 (ims (p.1.2.2.2.map encI)) p.1.2.1 p.1.2.2.1]⟩) (fun p => c.loops.length - p.1.1) ⟨(0, 0, true, []), by simp [wrongTo]⟩ (Weak.of_keep [1,5,6] (by simp)) ?_
  rintro ⟨⟨i, gn, nl, out⟩, hi, ho⟩
  simp only at hi ho
  simp only [iv]
  have hol : out.length ≤ i := by
   rw [ho, List.length_map, wrongTo]
   have := List.length_filter_le (badT c neverS 0) (List.range i)
   simpa using this
  by_cases hlt : i < c.loops.length
  ·have c3 := c2 i hlt
   have hw : IntKind.i64.wrap ((i : Int) + 1) = ((i + 1 : Nat) : Int) := i64w (by omega) (by omega)
   simp only [spotsv, List.map_nil] at c3
   have hb := hba i hlt
   have hn := hws i
   rw [hb] at hn
   cases hq : closesT c neverS 0 c.loops[i]
   all_goals rw [hq] at c3 hn
   all_goals simp only [Bool.not_false, Bool.not_true, Bool.false_eq_true, if_false, if_true, List.append_nil] at hn
   ·have hs : True := trivial
    repeat' first | (with_reducible first | refine q01 ?_ | refine q04 ?_ | refine q11 ?_ | refine q12 ?_ | refine q14 ?_ | refine And.intro (by omega) ?_) | (refine CallE.pure (c3) ?_; try simp -dsimp [hw, hlt, hs]) | (with_reducible refine DT_regionE [0,1,2,3,4,5,6,10,16,22] ?_; simp -dsimp [hw, hlt, hs]) | (refine DT_cond rfl (fun h => ?_) (fun h => ?_) <;> (try simp only [nrm] at h) <;> (try exact Bool.noConfusion h))
    all_goals try simp -dsimp [hw, hlt, hs]
    all_goals try clear hs
    all_goals try omega
    exact At.round ⟨(i + 1, gn + 1, false, out ++ [(i : Int)]), by omega, by rw [hn, List.map_append, ho]; rfl⟩ (by simp; omega) (Weak.of_drop [1,5,6] 3 (by simp) (by simp) (by simp))
   ·have hs : True := trivial
    repeat' first | (with_reducible first | refine q01 ?_ | refine q04 ?_ | refine q11 ?_ | refine q12 ?_ | refine q14 ?_) | (refine CallE.pure (c3) ?_; try simp -dsimp [hw, hlt, hs]) | (with_reducible refine DT_regionE [0,1,2,3,4,5,6,10,16,22] ?_; simp -dsimp [hw, hlt, hs]) | (refine DT_cond rfl (fun h => ?_) (fun h => ?_) <;> (try simp only [nrm] at h) <;> (try exact Bool.noConfusion h))
    all_goals try simp -dsimp [hw, hlt, hs]
    all_goals try clear hs
    exact At.round ⟨(i + 1, gn, nl, out), by omega, by rw [hn, ho]⟩ (by simp; omega) (Weak.of_drop [1,5,6] 3 (by simp) (by simp) (by simp))
  ·have hie : i = c.loops.length := by omega
   subst hie
   have hs : True := trivial
   repeat' first | (with_reducible first | refine q01 ?_ | refine q03 ?_ | refine q06 ?_ | refine q11 ?_ | refine q16 ?_ | refine q17 ?_) | (with_reducible refine At.fn_ret (by simp -dsimp [hlt, hs]; exact rfl) ?_) | (with_reducible refine DT_regionE [0,1,2,3,4,5,6,10,16,22] ?_; simp -dsimp [hlt, hs]) | (refine DT_cond rfl (fun h => ?_) (fun h => ?_) <;> (try simp only [nrm] at h) <;> (try exact Bool.noConfusion h))
   all_goals try simp -dsimp [hlt, hs]
   all_goals try clear hs
   all_goals try omega
   all_goals simp [ho, hI]
 ·rw [wrongR, if_neg h0]
  have hs : True := trivial
  repeat' first | (with_reducible first | refine q01 ?_ | refine q02 ?_ | refine q11 ?_ | refine q17 ?_) | (with_reducible refine At.fn_ret (by simp -dsimp [h0, hs]; exact rfl) ?_) | (refine CallE.pure (c1) ?_; try simp -dsimp [h0, hs]) | (with_reducible refine DT_regionE [0,1,2,3,4,5,6,10,16,22] ?_; simp -dsimp [h0, hs]) | (refine DT_cond rfl (fun h => ?_) (fun h => ?_) <;> (try simp only [nrm] at h) <;> (try exact Bool.noConfusion h))
  all_goals try simp -dsimp [h0, hs]
  all_goals try clear hs
end Go.Proofs
