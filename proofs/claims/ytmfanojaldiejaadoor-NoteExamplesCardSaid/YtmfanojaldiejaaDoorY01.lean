/- Part 28 of the proofs: laws and walks that hold without conditions beyond those that each theorem names. -/
import Derived.Test.YtmfanojaldiejaaDoorA20
import Derived.Test.YtmfanojaldiejaaDoorA23
import Derived.Test.YtmfanojaldiejaaDoorA25
set_option linter.all false
set_option linter.deprecated false
namespace Go.Proofs
open Go Go.Ab
set_option linter.unusedSimpArgs false
variable {G : Nat → Option (List IC)}
theorem DT_freezeAt (i : Nat) {P : Program} {nt : Nat} {tmps : List (Nat × DV)} {o : DObj} {os : List DObj} {ops : Array Oper} {b : Bool} {Q : Exit → DS → Prop} (h : DT P G ⟨0, none⟩ (Code.region i ops b) (DS.drop ⟨nt, tmps, o :: os⟩ 0) Q) : DT P G ⟨0, none⟩ (Code.region i ops b) ⟨nt, tmps, o :: os⟩ Q :=
  DT_weak (Weak.drop (Nat.zero_le _) (Nat.zero_le _)) h
def oddL : List Note := noteX.set 0 { noteX[0] with to := 1000 }
def lateL : List Note := noteX.set 2 { noteX[2] with cancels := 104 }
def oddX : Notes := ⟨regX, oddL⟩
def tornX : Notes := ⟨[], noteX⟩
def lateX : Notes := ⟨regX, lateL⟩
theorem odd_small : NSm oddX := ⟨⟨by decide +kernel, by decide +kernel⟩, by decide +kernel, by decide +kernel⟩
theorem torn_small : NSm tornX := ⟨⟨by decide +kernel, by decide +kernel⟩, by decide +kernel, by decide +kernel⟩
theorem late_small : NSm lateX := ⟨⟨by decide +kernel, by decide +kernel⟩, by decide +kernel, by decide +kernel⟩
theorem odd_e : notesE oddX = 30 := by decide +kernel
theorem torn_e : notesE tornX = 20 := by decide +kernel
theorem late_e : notesE lateX = 30 := by decide +kernel
theorem odd_a : askedE oddX [] 0 = 30 := by unfold askedE; rw [odd_e]; decide
theorem torn_a : askedE tornX [] 0 = 20 := by unfold askedE; rw [torn_e]; decide
theorem late_a : askedE lateX [] 1 = 30 := by unfold askedE; rw [late_e]; decide
theorem x_ask31 : askedE nX [101] 0 = 31 := by unfold askedE; rw [x_notes, x_open]; decide
theorem x_ask2 : askedE nX [] 0 = 2 := by unfold askedE; rw [x_notes, x_open]; decide
theorem x_drw6 : drawnE nX [] 1 60 = 6 := by unfold drawnE; rw [x_asked 1 (by omega) (by omega), x_nums]; decide
theorem x_drw2 : drawnE nX [] 1000 60 = 2 := by unfold drawnE askedE; rw [x_notes, x_open]; decide
theorem x_drw31 : drawnE nX [102,102] 1 30 = 31 := by unfold drawnE askedE; rw [x_notes, x_open]; decide
theorem x_set6 : settleE nX 101 = 6 := by decide +kernel
theorem x_set6N : settleN nX 101 true = ⟨[], []⟩ := by unfold settleN; rw [x_set6]; rfl
theorem x_by9 : (byF nX [] [] 9 30 4).number = 101 := by decide +kernel
theorem x_by11 : (byF nX [] [] 11 30 4).number = 0 := by decide +kernel
theorem x_strL30 : strL nX [] 30 = [⟨1, 4, 1⟩, ⟨5, 9, 2⟩, ⟨10, 12, 1⟩, ⟨13, 14, 2⟩, ⟨15, 15, 1⟩, ⟨16, 999, 2⟩] := by
  unfold strL; rw [x_drawn 1 30 (by omega) (by omega) (by simp), if_pos rfl]; exact x_str
theorem x_fst5 : firV nX [] 30 2 = 5 ∧ firE nX [] 30 2 = 0 := by
  unfold firV firE
  rw [x_drawn 1 30 (by omega) (by omega) (by simp), x_strL30]
  exact ⟨by decide, by decide⟩
theorem x_str10n : strP (letF nX [] 10) (marksP nX.notes) = [⟨1, 999, 1⟩] := by rw [x_marks]; decide +kernel
theorem x_fst6 : firE nX [] 10 2 = 6 := by
  unfold firE
  rw [x_drawn 1 10 (by omega) (by omega) (by simp)]
  unfold strL
  rw [x_drawn 1 10 (by omega) (by omega) (by simp), if_pos rfl, x_str10n]
  decide
theorem x_mat30 : selN [102] (matM (difB (letsL nX 30 [102] 2)) 1 2) 1 = [] := by decide +kernel
theorem x_asked30 : askedE nX [] 30 = 0 := x_asked 30 (by omega) (by omega)
def regE : List (List IC) := regX.map encIssue
def notE (a b : Int) : List (List IC) := [[rI 101, rI 100, .raw (.int .u8 2), rI 30, rI 2, rI 5, rI a, rI 0, rB false, .raw (.int .u8 0)], [rI 102, rI 200, .raw (.int .u8 1), rI 10, rI 2, rI 8, rI 20, rI 0, rB false, .raw (.int .u8 0)], [rI 103, rI 300, .raw (.int .u8 2), rI 0, rI 0, rI 10, rI 12, rI b, rB false, .raw (.int .u8 0)], [rI 104, rI 400, .raw (.int .u8 2), rI 30, rI 1, rI 15, rI 15, rI 0, rB false, .raw (.int .u8 0)]]
set_option maxHeartbeats 4000000 in
theorem notesM_c : DCall Tryd.prog G 6 [] [] (fun d o => d = .agg [.im (.sl regE), .vec 3 0 0 4] ∧ o = [.vec 0 [] 0 true, .vec 0 [] 0 true, .row [.im (.sl regE), .vec 3 0 0 4], .vec 10 (ims (notE 999 101)) 0 false]) := by
  have c1 := register_c (G := G)
  simp only [regv, show regX.map encIssue = regE from rfl] at c1
  refine DCall_intro Tryd.func6 rfl Tryd.ntmps6 (by simp) rfl ?_
  have hs : True := trivial
  repeat' first | (with_reducible first | refine q01 ?_ | refine q11 ?_ | refine q17 ?_) | (with_reducible refine At.fn_ret (by simp -dsimp [hs]; exact rfl) ?_) | (refine CallE.pure (c1) ?_; try simp -dsimp [hs]) | (with_reducible refine DT_regionE [0] ?_; simp -dsimp [hs]) | with_reducible refine And.intro ?_ ?_
  all_goals try simp -dsimp [hs]
  all_goals try clear hs
  all_goals simp [notE, ims]
set_option maxRecDepth 100000 in
set_option maxHeartbeats 16000000 in
theorem noteExamples_c (hG : sheetG G) (hN : noteG G) (hS : SortOk G) (objs : List DObj) : DCall Tryd.prog G 3 [] objs (fun rr objs' => rr = bv true ∧ objs' = objs) := by
  refine DCall.frame ?_ (by simp) (by simp) objs
  refine DCall_intro Tryd.func3 rfl Tryd.ntmps3 (by simp) rfl ?_
  try simp only [iv]
  have hx := x_small
  have c0 := notesX_c (G := G)
  have cm := notesM_c (G := G)
  have c1 := alive_c hG hN hS
  have c2 := nBy_c (G := G) nX [] 30 9 hG hN hS hx (by simp)
  rw [x_drawn 9 30 (by omega) (by omega) (by simp), if_pos rfl, show nX.notes.length = 4 from rfl, x_by9] at c2
  have c3 := nBy_c (G := G) nX [] 30 11 hG hN hS hx (by simp)
  rw [x_drawn 11 30 (by omega) (by omega) (by simp), if_pos rfl, show nX.notes.length = 4 from rfl, x_by11] at c3
  have c4 := nFirst_c (G := G) nX [] 30 2 hG hN hS hx (by simp)
  rw [x_fst5.1, x_fst5.2] at c4
  have c5 := nMatters_c (G := G) nX 30 hG hN hS hx
  rw [x_asked30, if_pos rfl, x_open, show (2 : Nat) ^ [(102 : Int)].length = 2 from rfl, show [(102 : Int)].length = 1 from rfl, x_mat30] at c5
  have c6 := isX_c (G := G) [] 0 [] (by simp) (by simp)
  have c7 := nForce_c (G := G) oddX [] 0 hG hN hS odd_small (by simp)
  rw [odd_a, if_neg (by decide)] at c7
  have c8 := nForce_c (G := G) tornX [] 0 hG hN hS torn_small (by simp)
  rw [torn_a, if_neg (by decide)] at c8
  have c9 := nForce_c (G := G) lateX [] 1 hG hN hS late_small (by simp)
  rw [late_a, if_neg (by decide)] at c9
  have c10 := nLetters_c (G := G) nX [101] 0 hG hN hS hx (by simp)
  rw [x_ask31, if_neg (by decide)] at c10
  have c11 := nLetters_c (G := G) nX [] 0 hG hN hS hx (by simp)
  rw [x_ask2, if_neg (by decide)] at c11
  have c12 := nBy_c (G := G) nX [] 60 1 hG hN hS hx (by simp)
  rw [x_drw6, if_neg (by decide)] at c12
  have c13 := nFirst_c (G := G) nX [] 10 2 hG hN hS hx (by simp)
  rw [x_fst6] at c13
  have c14 := nSettle_c (G := G) nX 101 true hG hN hS x_smallN hx
  rw [x_set6, x_set6N] at c14
  have c15 := nPossible_c (G := G) nX 60 1000 hG hN hS hx
  rw [x_drw2, if_neg (by decide)] at c15
  have c16 := nStretches_c (G := G) nX [102,102] 30 hG hN hS hx (by simp)
  rw [x_drw31, if_neg (by decide)] at c16
  have c17 := nCheck_c (G := G) oddX hG hN hS odd_small
  rw [odd_e] at c17
  generalize firV nX [] 10 2 = fv at *
  clear hx hG hN hS
  simp only [decide_true, Bool.and_self] at c6
  simp only [strv, isv, refv, notesv, encNotes] at *
  rw [show nX.reg.map encIssue = regE from rfl, show nX.notes.map encNote = notE 999 101 from rfl] at c0 c2 c3 c4 c5 c10 c11 c12 c13 c14 c15 c16
  rw [show oddX.reg.map encIssue = regE from rfl, show oddX.notes.map encNote = notE 1000 101 from rfl] at c7 c17
  rw [show tornX.notes.map encNote = notE 999 101 from rfl, show tornX.reg.map encIssue = [] from rfl] at c8
  rw [show lateX.reg.map encIssue = regE from rfl, show lateX.notes.map encNote = notE 999 104 from rfl] at c9
  generalize regE = E at *
  have hs : True := trivial
  repeat' first | (with_reducible first | refine q01 ?_ | refine q11 ?_ | refine q14 ?_) | (refine CallE.pure (c0) ?_; try simp -dsimp [hs]) | (refine CallE.pure (c1) ?_; try simp -dsimp [hs]) | (refine CallE.pure (c2) ?_; try simp -dsimp [hs]) | (refine CallE.pure (c3) ?_; try simp -dsimp [hs]) | (refine CallE.pure (c4) ?_; try simp -dsimp [hs]) | (refine CallE.pure (c5) ?_; try simp -dsimp [hs]) | (with_reducible refine DT_regionE [0,1,2,3,4,5,6,7,8,9,10,11,13,15,17,19,21,23,27,76] ?_; simp -dsimp [hs]) | (refine DT_cond rfl (fun h => ?_) (fun h => ?_) <;> (try simp only [nrm] at h) <;> (try exact Bool.noConfusion h))
  all_goals try simp -dsimp [hs]
  all_goals try clear hs
  simp only [notE] at *
  have hs : True := trivial
  repeat' first | (with_reducible first | refine q01 ?_ | refine q11 ?_ | refine q14 ?_) | (refine DT_freezeAt 13 ?_; try simp -dsimp [hs]) | (refine CallE.pure (c6) ?_; try simp -dsimp [hs]) | (refine CallE.embed [] (cm) ?_ ?_ ?_ ?_ ?_ ?_; (focus (simp [emb]; done)); (focus (simp; done)); (focus (simp; done)); (focus (simp; done)); (focus (refine emb_all ?_; simp [emb, embAll]; done)); try simp -dsimp [mergeO, emb, hs]) | (with_reducible refine DT_regionE [0,1,2,3,4,5,6,7,8,9,10,11,13,15,17,19,21,23,27,76] ?_; simp -dsimp [hs]) | (refine DT_cond rfl (fun h => ?_) (fun h => ?_) <;> (try simp only [nrm] at h) <;> (try exact Bool.noConfusion h))
  all_goals try simp -dsimp [hs]
  all_goals try clear hs
  simp only [List.map_cons, List.map_nil, encI] at c10 c16
  have hs : True := trivial
  repeat' first | (with_reducible first | refine q01 ?_ | refine q11 ?_ | refine q17 ?_) | (with_reducible refine At.fn_ret (by simp -dsimp [hs]; exact rfl) ?_) | (refine CallE.pure (c0) ?_; try simp -dsimp [hs]) | (refine CallE.pure (c7) ?_; try simp -dsimp [hs]) | (refine CallE.pure (c8) ?_; try simp -dsimp [hs]) | (refine CallE.pure (c9) ?_; try simp -dsimp [hs]) | (refine CallE.freeze 0 (c10 []) ?_ ?_ ?_ ?_ ?_ ?_; (focus (simp; done)); (focus (simp; done)); (focus (simp; done)); (focus rfl); (focus (simp; done)); try simp -dsimp [gones]; try simp -dsimp [hs]) | (refine CallE.pure (c11) ?_; try simp -dsimp [hs]) | (refine CallE.pure (c12) ?_; try simp -dsimp [hs]) | (refine CallE.pure (c13) ?_; try simp -dsimp [hs]) | (refine CallE.pure (c14) ?_; try simp -dsimp [hs]) | (refine CallE.pure (c15) ?_; try simp -dsimp [hs]) | (refine CallE.freeze 0 (c16 []) ?_ ?_ ?_ ?_ ?_ ?_; (focus (simp; done)); (focus (simp; done)); (focus (simp; done)); (focus rfl); (focus (simp; done)); try simp -dsimp [gones]; try simp -dsimp [hs]) | (refine CallE.pure (c17) ?_; try simp -dsimp [hs]) | (with_reducible refine DT_regionE [0,1,2,3,4,5,6,7,8,9,10,11,13,15,17,19,21,23,27,76] ?_; simp -dsimp [hs])
  all_goals try simp -dsimp [hs]
  all_goals try clear hs
end Go.Proofs
