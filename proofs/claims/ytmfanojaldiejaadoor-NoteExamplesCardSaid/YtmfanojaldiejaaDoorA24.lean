/- Part 24 of the proofs: laws and walks that hold without conditions beyond those that each theorem names. -/
import Derived.Test.YtmfanojaldiejaaDoorA13
import Derived.Test.YtmfanojaldiejaaDoorA19
import Derived.Test.YtmfanojaldiejaaDoorA20
import Derived.Test.YtmfanojaldiejaaDoorA22
import Derived.Test.YtmfanojaldiejaaDoorA23
set_option linter.all false
set_option linter.deprecated false
namespace Go.Proofs
open Go Go.Ab
set_option linter.unusedSimpArgs false
variable {G : Nat → Option (List IC)}
set_option maxRecDepth 4000 in
set_option maxHeartbeats 8000000 in
theorem clash_c (n : Notes) (s w : List Int) (hS : SortOk G) (hok : allOk n) (hl : n.notes.length ≤ 16) (hsl : s.length < 1000) (hwl : w.length < 1000) (objs : List DObj) : DCall Tryd.prog G 46 [.one (.im (fileI n)), isv s, isv w] objs (fun rr objs' => rr = prv (clashL n s w) ∧ objs' = objs) := by
  refine DCall.frame ?_ (by simp) (by simp) objs
  refine DCall_intro Tryd.func46 rfl Tryd.ntmps46 (by simp) rfl ?_
  try simp only [isv, isv]
  have c1 := marks_c n hS (by omega) (fun x hx => by have := nk3_of hok hx; omega)
  have c2 := fun m => force_c (G := G) n s w m
  have hml := marks_len n.notes
  simp only [fileI] at c1 ⊢
  simp only [frcObjs, frcCaps, fileI, iv, isv, bv, rI, List.map_cons, List.map_nil, encMB] at c2
  have hs : True := trivial
  repeat' first | (with_reducible first | refine q01 ?_ | refine q11 ?_ | refine q12 ?_) | (refine CallE.pure (c1) ?_; try simp -dsimp [hs]) | (with_reducible refine DT_regionE [0,1,2,6,7,9,10,11,12,13,14,15,16,17,20,21,22,23,36,37,38,40,41,42,51,63,64,65,66,74,75,76,77,104] ?_; simp -dsimp [hs])
  all_goals try simp -dsimp [hs]
  all_goals try clear hs
  generalize hMs : marksP n.notes = Ms at *
  refine DT_loop (ι := { p : Nat × List (Int × Int) // p.1 ≤ Ms.length ∧ ∀ m, Bspec n s w (Ms.take p.1) m 0 0 p.2 }) (fun p => ⟨116, [(0, .one (.im (.ip [.sl (n.reg.map encIssue), .sl (n.notes.map encNote), .sl ((nums n.reg).map encI), .sl ((isort (openL n.notes)).map encI)]))), (1, isv s), (2, isv w), (7, .one (.map 1)), (20, isv Ms), (21, iv (Ms.length : Int)), (22, iv (p.1.1 : Int))], [.vec 2 [] 0 true, .map [.int .i64, .int .i64] (encPS p.1.2)]⟩) (fun p => Ms.length - p.1.1) ⟨(0, []), by simp, fun m => Bspec.start n s w m⟩ (Weak.of_keep [0,1,2,7,20,21,22] (by simp [encPS])) ?_
  rintro ⟨⟨j, B⟩, hj, hB⟩
  simp only at hj hB
  simp only [iv, isv]
  by_cases hlt : j < Ms.length
  · have hw : IntKind.i64.wrap ((j : Int) + 1) = ((j + 1 : Nat) : Int) := i64w (by omega) (by omega)
    have htk : Ms.take (j + 1) = Ms.take j ++ [Ms[j]] := List.take_succ_eq_append_getElem hlt
    generalize hm : Ms[j] = m at *
    have c3 := c2 m
    have hs : True := trivial
    repeat' first | (with_reducible first | refine q01 ?_ | refine q11 ?_ | refine q12 ?_ | refine q14 ?_) | (refine CallE.embed [] (c3) ?_ ?_ ?_ ?_ ?_ ?_; (focus (simp [emb]; done)); (focus (simp; done)); (focus (simp; done)); (focus (simp; done)); (focus (refine emb_all ?_; simp [emb, embAll]; done)); try simp -dsimp [mergeO, emb, hm, hlt, hs]) | (with_reducible refine DT_regionE [0,1,2,6,7,9,10,11,12,13,14,15,16,17,20,21,22,23,36,37,38,40,41,42,51,63,64,65,66,74,75,76,77,104] ?_; simp -dsimp [hm, hlt, hs]) | (refine DT_cond rfl (fun h => ?_) (fun h => ?_) <;> (try simp only [nrm] at h) <;> (try exact Bool.noConfusion h))
    all_goals try simp -dsimp [hm, hlt, hs]
    all_goals try clear hs
    refine DT_loop (ι := { p : Nat × List (Int × Int) × List (Int × Bool) // p.1 ≤ n.notes.length ∧ ConsM n s w m p.2.2 ∧ Bspec n s w (Ms.take j) m p.1 0 p.2.1 }) (fun p => ⟨116, [(0, .one (.im (.ip [.sl (n.reg.map encIssue), .sl (n.notes.map encNote), .sl ((nums n.reg).map encI), .sl ((isort (openL n.notes)).map encI)]))), (1, isv s), (2, isv w), (7, .one (.map 1)), (10, .one (.fn (.func 49) [.ptr 7 0, .ptr 2 0, .ptr 3 0, .ptr 4 0, .ptr 5 0, .ptr 8 0])), (20, isv Ms), (21, iv (Ms.length : Int)), (22, iv (j : Int)), (36, iv (n.notes.length : Int)), (37, iv (p.1.1 : Int))], [.vec 2 [] 0 true, .map [.int .i64, .int .i64] (encPS p.1.2.1)] ++ [.row [.im (.ip [.sl (n.reg.map encIssue), .sl (n.notes.map encNote), .sl ((nums n.reg).map encI), .sl ((isort (openL n.notes)).map encI)])], .row [.im (.sl (s.map encI))], .row [.im (.sl (w.map encI))], .row [.im (rI m)], .map [.int .i64] (encMB p.1.2.2), .row [.map 6], .row [.fn (.func 49) [.ptr 7 0, .ptr 2 0, .ptr 3 0, .ptr 4 0, .ptr 5 0, .ptr 8 0]]]⟩) (fun p => n.notes.length - p.1.1) ⟨(0, B, []), by simp, ConsM.nil _ _ _ _, hB m⟩ (Weak.of_keep [0,1,2,7,10,20,21,22,36,37] (by simp [encMB])) ?_
    rintro ⟨⟨i, B2, M⟩, hi, hM, hB2⟩
    simp only at hi hM hB2
    simp only [iv, isv]
    by_cases hli : i < n.notes.length
    · have hwi : IntKind.i64.wrap ((i : Int) + 1) = ((i + 1 : Nat) : Int) := i64w (by omega) (by omega)
      have hs : True := trivial
      repeat' first | (with_reducible first | refine q01 ?_ | refine q11 ?_ | refine q12 ?_ | refine q14 ?_) | (with_reducible refine DT_regionE [0,1,2,6,7,9,10,11,12,13,14,15,16,17,20,21,22,23,36,37,38,40,41,42,51,63,64,65,66,74,75,76,77,104] ?_; simp -dsimp [hli, hs]) | (refine DT_cond rfl (fun h => ?_) (fun h => ?_) <;> (try simp only [nrm] at h) <;> (try exact Bool.noConfusion h))
      all_goals try simp -dsimp [hli, hs]
      all_goals try clear hs
      refine DT_loop (ι := { p : Nat × List (Int × Int) × List (Int × Bool) // p.1 ≤ i ∧ ConsM n s w m p.2.2 ∧ Bspec n s w (Ms.take j) m i p.1 p.2.1 }) (fun p => ⟨116, [(0, .one (.im (.ip [.sl (n.reg.map encIssue), .sl (n.notes.map encNote), .sl ((nums n.reg).map encI), .sl ((isort (openL n.notes)).map encI)]))), (1, isv s), (2, isv w), (7, .one (.map 1)), (10, .one (.fn (.func 49) [.ptr 7 0, .ptr 2 0, .ptr 3 0, .ptr 4 0, .ptr 5 0, .ptr 8 0])), (11, iv (i : Int)), (20, isv Ms), (21, iv (Ms.length : Int)), (22, iv (j : Int)), (36, iv (n.notes.length : Int)), (37, iv (i : Int)), (40, iv (i : Int)), (41, iv (p.1.1 : Int))], [.vec 2 [] 0 true, .map [.int .i64, .int .i64] (encPS p.1.2.1)] ++ [.row [.im (.ip [.sl (n.reg.map encIssue), .sl (n.notes.map encNote), .sl ((nums n.reg).map encI), .sl ((isort (openL n.notes)).map encI)])], .row [.im (.sl (s.map encI))], .row [.im (.sl (w.map encI))], .row [.im (rI m)], .map [.int .i64] (encMB p.1.2.2), .row [.map 6], .row [.fn (.func 49) [.ptr 7 0, .ptr 2 0, .ptr 3 0, .ptr 4 0, .ptr 5 0, .ptr 8 0]]]⟩) (fun p => i - p.1.1) ⟨(0, B2, M), by simp, hM, hB2⟩ (Weak.of_keep [0,1,2,7,10,11,20,21,22,36,37,40,41] (by simp)) ?_
      rintro ⟨⟨k, B3, M3⟩, hk, hM3, hB3⟩
      simp only at hk hM3 hB3
      simp only [iv, isv]
      by_cases hlk : k < i
      · have hwk : IntKind.i64.wrap ((k : Int) + 1) = ((k + 1 : Nat) : Int) := i64w (by omega) (by omega)
        have c4 := is_c (G := G) n s w m (by omega) hsl hwl n.notes.length i (by omega) hli M3 hM3
        have c5 := fun M hM => is_c (G := G) n s w m (by omega) hsl hwl n.notes.length k (by omega) (by omega) M hM
        have hput := fun h => hB3.put hlk hli h
        have hskip := fun h => hB3.skip (k := k) h
        simp only [frcObjs, frcCaps, fileI, iv, bv, rI, List.map_cons, List.map_nil] at c4 c5
        cases hfi : frcAt n s w m i
        · rw [hfi] at c4
          have hsk := hskip (by rw [hfi]; simp)
          have hs : True := trivial
          repeat' first | (with_reducible first | refine q01 ?_ | refine q04 ?_ | refine q11 ?_ | refine q12 ?_ | refine q14 ?_) | (refine CallE.embed_ex [2,3,4,5,6,7,8] (c4) ?_ ?_ ?_ ?_ ?_ ?_; (focus (simp [emb]; done)); (focus (simp; done)); (focus (simp; done)); (focus (simp; done)); (focus (refine emb_all ?_; simp [emb, embAll]; done)); intro mm hmm; try simp -dsimp [mergeO, emb, hlk, hwk, hs]) | (with_reducible refine DT_regionE [0,1,2,6,7,9,10,11,12,13,14,15,16,17,20,21,22,23,36,37,38,40,41,42,51,63,64,65,66,74,75,76,77,104] ?_; simp -dsimp [hlk, hwk, hs]) | (refine DT_cond rfl (fun h => ?_) (fun h => ?_) <;> (try simp only [nrm] at h) <;> (try exact Bool.noConfusion h))
          all_goals try simp -dsimp [hlk, hwk, hs]
          all_goals try clear hs
          all_goals exact At.round ⟨(k + 1, B3, mm), by simp only; omega, hmm, hsk⟩ (by simp only; omega) (Weak.of_drop [0,1,2,7,10,11,20,21,22,36,37,40,41] 9 (by simp) (by simp) (by simp))
        · cases hfk : frcAt n s w m k
          · rw [hfi] at c4
            simp only [hfk] at c5
            have hsk := hskip (by rw [hfk]; simp)
            have hs : True := trivial
            repeat' first | (with_reducible first | refine q01 ?_ | refine q04 ?_ | refine q11 ?_ | refine q12 ?_ | refine q14 ?_) | (refine CallE.embed_ex [2,3,4,5,6,7,8] (c4) ?_ ?_ ?_ ?_ ?_ ?_; (focus (simp [emb]; done)); (focus (simp; done)); (focus (simp; done)); (focus (simp; done)); (focus (refine emb_all ?_; simp [emb, embAll]; done)); intro mma hmma; try simp -dsimp [mergeO, emb, hlk, hwk, hs]) | (refine CallE.embed_ex [2,3,4,5,6,7,8] (c5 mma hmma) ?_ ?_ ?_ ?_ ?_ ?_; (focus (simp [emb]; done)); (focus (simp; done)); (focus (simp; done)); (focus (simp; done)); (focus (refine emb_all ?_; simp [emb, embAll]; done)); intro mm hmm; try simp -dsimp [mergeO, emb, hlk, hwk, hs]) | (with_reducible refine DT_regionE [0,1,2,6,7,9,10,11,12,13,14,15,16,17,20,21,22,23,36,37,38,40,41,42,51,63,64,65,66,74,75,76,77,104] ?_; simp -dsimp [hlk, hwk, hs]) | (refine DT_cond rfl (fun h => ?_) (fun h => ?_) <;> (try simp only [nrm] at h) <;> (try exact Bool.noConfusion h))
            all_goals try simp -dsimp [hlk, hwk, hs]
            all_goals try clear hs
            all_goals exact At.round ⟨(k + 1, B3, mm), by simp only; omega, hmm, hsk⟩ (by simp only; omega) (Weak.of_drop [0,1,2,7,10,11,20,21,22,36,37,40,41] 9 (by simp) (by simp) (by simp))
          · rw [hfi] at c4
            simp only [hfk] at c5
            have hpt := hput ⟨hfi, hfk⟩
            have hs : True := trivial
            repeat' first | (with_reducible first | refine q01 ?_ | refine q04 ?_ | refine q11 ?_ | refine q12 ?_ | refine q14 ?_) | (refine CallE.embed_ex [2,3,4,5,6,7,8] (c4) ?_ ?_ ?_ ?_ ?_ ?_; (focus (simp [emb]; done)); (focus (simp; done)); (focus (simp; done)); (focus (simp; done)); (focus (refine emb_all ?_; simp [emb, embAll]; done)); intro mma hmma; try simp -dsimp [mergeO, emb, hlk, hwk, hs]) | (refine CallE.embed_ex [2,3,4,5,6,7,8] (c5 mma hmma) ?_ ?_ ?_ ?_ ?_ ?_; (focus (simp [emb]; done)); (focus (simp; done)); (focus (simp; done)); (focus (simp; done)); (focus (refine emb_all ?_; simp [emb, embAll]; done)); intro mm hmm; try simp -dsimp [mergeO, emb, hlk, hwk, hs]) | (with_reducible refine DT_regionE [0,1,2,6,7,9,10,11,12,13,14,15,16,17,20,21,22,23,36,37,38,40,41,42,51,63,64,65,66,74,75,76,77,104] ?_; simp -dsimp [hlk, hwk, hs]) | (refine DT_cond rfl (fun h => ?_) (fun h => ?_) <;> (try simp only [nrm] at h) <;> (try exact Bool.noConfusion h))
            all_goals try simp -dsimp [hlk, hwk, hs]
            all_goals try clear hs
            all_goals exact At.round ⟨(k + 1, pput ((k : Int), (i : Int)) B3, mm), by simp only; omega, hmm, hpt⟩ (by simp only; omega) (Weak.of_drop [0,1,2,7,10,11,20,21,22,36,37,40,41] 9 (by simp) (by simp) (by simp))
      · obtain rfl : k = i := by omega
        have hrow := hB3.row
        have hs : True := trivial
        repeat' first | (with_reducible first | refine q01 ?_ | refine q03 ?_ | refine q04 ?_ | refine q06 ?_ | refine q11 ?_ | refine q16 ?_) | (with_reducible refine DT_regionE [0,1,2,6,7,9,10,11,12,13,14,15,16,17,20,21,22,23,36,37,38,40,41,42,51,63,64,65,66,74,75,76,77,104] ?_; simp -dsimp [hlk, hwi, hs]) | (refine DT_cond rfl (fun h => ?_) (fun h => ?_) <;> (try simp only [nrm] at h) <;> (try exact Bool.noConfusion h))
        all_goals try simp -dsimp [hlk, hwi, hs]
        all_goals try clear hs
        all_goals exact At.round ⟨(k + 1, B3, M3), by simp only; omega, hM3, hrow⟩ (by simp only; omega) (Weak.of_drop [0,1,2,7,10,20,21,22,36,37] 9 (by simp) (by simp) (by simp))
    · obtain rfl : i = n.notes.length := by omega
      have hmk := fun m' => hB2.mark (m' := m')
      have hs : True := trivial
      repeat' first | (with_reducible first | refine q01 ?_ | refine q03 ?_ | refine q04 ?_ | refine q06 ?_ | refine q11 ?_ | refine q16 ?_) | (with_reducible refine DT_regionE [0,1,2,6,7,9,10,11,12,13,14,15,16,17,20,21,22,23,36,37,38,40,41,42,51,63,64,65,66,74,75,76,77,104] ?_; simp -dsimp [hli, hw, hs]) | (refine DT_cond rfl (fun h => ?_) (fun h => ?_) <;> (try simp only [nrm] at h) <;> (try exact Bool.noConfusion h))
      all_goals try simp -dsimp [hli, hw, hs]
      all_goals try clear hs
      all_goals exact At.round ⟨(j + 1, B2), by simp only; omega, fun m' => by rw [htk]; exact hmk m'⟩ (by simp only; omega) (Weak.of_drop [0,1,2,7,20,21,22] 2 (by simp) (by simp) (by simp))
  · obtain rfl : j = Ms.length := by omega
    rw [List.take_length, ← hMs] at hB
    have hboth := fun a b hb => (hB 0).both (a := a) (b := b) hb
    have hs : True := trivial
    repeat' first | (with_reducible first | refine q01 ?_ | refine q03 ?_ | refine q06 ?_ | refine q11 ?_ | refine q12 ?_ | refine q16 ?_) | (with_reducible refine DT_regionE [0,1,2,6,7,9,10,11,12,13,14,15,16,17,20,21,22,23,36,37,38,40,41,42,51,63,64,65,66,74,75,76,77,104] ?_; simp -dsimp [hlt, hs]) | (refine DT_cond rfl (fun h => ?_) (fun h => ?_) <;> (try simp only [nrm] at h) <;> (try exact Bool.noConfusion h))
    all_goals try simp -dsimp [hlt, hs]
    all_goals try clear hs
    refine DT_loop (ι := { p : Nat × Nat × Bool // p.1 ≤ n.notes.length }) (fun p => ⟨116, [(0, .one (.im (.ip [.sl (n.reg.map encIssue), .sl (n.notes.map encNote), .sl ((nums n.reg).map encI), .sl ((isort (openL n.notes)).map encI)]))), (7, .one (.map 1)), (13, .one (.vec 2 p.1.2.1 0 (clTo n s w p.1.1).length)), (63, .one (.im (.sl (n.notes.map encNote)))), (64, iv (n.notes.length : Int)), (65, iv (p.1.1 : Int))], [.vec 2 [] 0 true, .map [.int .i64, .int .i64] (encPS B), .vec 2 (ims ((clTo n s w p.1.1).map encPr)) p.1.2.1 p.1.2.2]⟩) (fun p => n.notes.length - p.1.1) ⟨(0, 0, true), by simp⟩ (Weak.of_keep [0,7,13,63,64,65] (by simp [clTo])) ?_
    rintro ⟨⟨a, g, nl⟩, ha⟩
    simp only at ha
    simp only [iv]
    have hTl := clTo_len n s w a
    have hTl2 : a * n.notes.length ≤ 16 * 16 := Nat.mul_le_mul (by omega) hl
    by_cases hla : a < n.notes.length
    · have hwa : IntKind.i64.wrap ((a : Int) + 1) = ((a + 1 : Nat) : Int) := i64w (by omega) (by omega)
      have hsa := clTo_succ n s w a
      have hna : numAt n.notes a = n.notes[a].number := by simp [numAt, hla]
      have hxo : n.notes[a]? = some n.notes[a] := by simp [hla]
      generalize hx : n.notes[a] = x at *
      generalize clTo n s w a = T at *
      have hs : True := trivial
      repeat' first | (with_reducible first | refine q01 ?_ | refine q11 ?_ | refine q12 ?_ | refine q14 ?_) | (with_reducible refine DT_regionE [0,1,2,6,7,9,10,11,12,13,14,15,16,17,20,21,22,23,36,37,38,40,41,42,51,63,64,65,66,74,75,76,77,104] ?_; simp -dsimp [hx, hla, hs]) | (refine DT_cond rfl (fun h => ?_) (fun h => ?_) <;> (try simp only [nrm] at h) <;> (try exact Bool.noConfusion h))
      all_goals try simp -dsimp [hx, hla, hs]
      all_goals try clear hs
      refine DT_loop (ι := { p : Nat × Nat × Bool // p.1 ≤ n.notes.length }) (fun p => ⟨116, [(0, .one (.im (.ip [.sl (n.reg.map encIssue), .sl (n.notes.map encNote), .sl ((nums n.reg).map encI), .sl ((isort (openL n.notes)).map encI)]))), (7, .one (.map 1)), (13, .one (.vec 2 p.1.2.1 0 (T ++ clRow n s w a p.1.1).length)), (14, iv (a : Int)), (15, .one (.ptr 3 0)), (63, .one (.im (.sl (n.notes.map encNote)))), (64, iv (n.notes.length : Int)), (65, iv (a : Int)), (74, .one (.im (.sl (n.notes.map encNote)))), (75, iv (n.notes.length : Int)), (76, iv (p.1.1 : Int))], [.vec 2 [] 0 true, .map [.int .i64, .int .i64] (encPS B), .vec 2 (ims ((T ++ clRow n s w a p.1.1).map encPr)) p.1.2.1 p.1.2.2, .row ((encNote x).map .im)]⟩) (fun p => n.notes.length - p.1.1) ⟨(0, g, nl), by simp⟩ (Weak.of_keep [0,7,13,14,15,63,64,65,74,75,76] (by simp [clRow])) ?_
      rintro ⟨⟨b, g2, nl2⟩, hb⟩
      simp only at hb
      simp only [iv]
      have hRl := clRow_len n s w a b
      by_cases hlb : b < n.notes.length
      · have hwb : IntKind.i64.wrap ((b : Int) + 1) = ((b + 1 : Nat) : Int) := i64w (by omega) (by omega)
        have hsb := clRow_succ n s w a b
        have hnb : numAt n.notes b = n.notes[b].number := by simp [numAt, hlb]
        have hyo : n.notes[b]? = some n.notes[b] := by simp [hlb]
        have hbo := hboth a b hlb
        have hck : clOk n s w a b = (decide (((a : Int), (b : Int)) ∈ B) && (decide (x.drawing ≠ 0) && decide (x.drawing = n.notes[b].drawing) && decide (n.notes[b].letter < x.letter))) := by
          rw [hbo, clOk, hxo, hyo]
        generalize hy : n.notes[b] = y at *
        rw [hna, hnb] at hsb
        have hTR : (T ++ clRow n s w a b).length ≤ 500 := by rw [List.length_append]; omega
        have hsb2 : T ++ clRow n s w a (b + 1) = (T ++ clRow n s w a b) ++ (if clOk n s w a b = true then [(x.number, y.number)] else []) := by
          rw [hsb, ← List.append_assoc]
        clear hsb
        generalize T ++ clRow n s w a b = R at *
        cases hq : decide (((a : Int), (b : Int)) ∈ B)
        · have hq' : ¬ ((a : Int), (b : Int)) ∈ B := by simpa using hq
          rw [hq] at hck
          rw [hck, Bool.false_and, if_neg Bool.false_ne_true, List.append_nil] at hsb2
          have hs : True := trivial
          repeat' first | (with_reducible first | refine q01 ?_ | refine q04 ?_ | refine q11 ?_ | refine q12 ?_ | refine q14 ?_) | (with_reducible refine DT_regionE [0,1,2,6,7,9,10,11,12,13,14,15,16,17,20,21,22,23,36,37,38,40,41,42,51,63,64,65,66,74,75,76,77,104] ?_; simp -dsimp [hy, hlb, hwb, hq', hs]) | (refine DT_cond rfl (fun h => ?_) (fun h => ?_) <;> (try simp only [nrm] at h) <;> (try exact Bool.noConfusion h))
          all_goals try simp -dsimp [hy, hlb, hwb, hq', hs]
          all_goals try clear hs
          all_goals exact At.round ⟨(b + 1, g2, nl2), by simp only; omega⟩ (by simp only; omega) (Weak.of_drop [0,7,13,14,15,63,64,65,74,75,76] 4 (by simp) (by simp) (by simp [hsb2]))
        · have hq' : ((a : Int), (b : Int)) ∈ B := by simpa using hq
          rw [hq, Bool.true_and] at hck
          have hs : True := trivial
          repeat' first | (with_reducible first | refine q01 ?_ | refine q04 ?_ | refine q11 ?_ | refine q12 ?_ | refine q14 ?_ | refine And.intro (by omega) ?_) | (with_reducible refine DT_regionE [0,1,2,6,7,9,10,11,12,13,14,15,16,17,20,21,22,23,36,37,38,40,41,42,51,63,64,65,66,74,75,76,77,104] ?_; simp -dsimp [hy, hlb, hwb, hq', hs]) | (refine DT_cond rfl (fun h => ?_) (fun h => ?_) <;> (try simp only [nrm] at h) <;> (try exact Bool.noConfusion h)) | (with_reducible refine GStop_split ?_ ?_ <;> intro h <;> have h0 := h <;> (try simp only [nrm] at h) <;> (try exact Bool.noConfusion h) <;> have h2 := h <;> (try simp at h2) <;> (replace hs := And.intro h0 (And.intro h (And.intro h2 hs))) <;> simp -dsimp [h0, h, h2, hy, hlb, hwb, hq', hs])
          all_goals try simp -dsimp [hy, hlb, hwb, hq', hs]
          all_goals try clear hs
          · have hc : clOk n s w a b = true := by rw [hck]; simp only [Bool.and_eq_true, decide_eq_true_eq]; exact ⟨⟨by assumption, by assumption⟩, by assumption⟩
            rw [if_pos hc] at hsb2
            exact At.round ⟨(b + 1, g2 + 1, false), by simp only; omega⟩ (by simp only; omega) (Weak.of_drop [0,7,13,14,15,63,64,65,74,75,76] 4 (by simp) (by simp) (by simp [hsb2] <;> omega))
          all_goals
            have hc : clOk n s w a b = false := by rw [hck, ← Bool.not_eq_true]; simp only [Bool.and_eq_true, decide_eq_true_eq]; omega
            rw [hc, if_neg Bool.false_ne_true, List.append_nil] at hsb2
            exact At.round ⟨(b + 1, g2, nl2), by simp only; omega⟩ (by simp only; omega) (Weak.of_drop [0,7,13,14,15,63,64,65,74,75,76] 4 (by simp) (by simp) (by simp [hsb2] <;> omega))
      · obtain rfl : b = n.notes.length := by omega
        rw [← hsa]
        have hs : True := trivial
        repeat' first | (with_reducible first | refine q01 ?_ | refine q03 ?_ | refine q04 ?_ | refine q06 ?_ | refine q11 ?_ | refine q16 ?_) | (with_reducible refine DT_regionE [0,1,2,6,7,9,10,11,12,13,14,15,16,17,20,21,22,23,36,37,38,40,41,42,51,63,64,65,66,74,75,76,77,104] ?_; simp -dsimp [hlb, hwa, hs]) | (refine DT_cond rfl (fun h => ?_) (fun h => ?_) <;> (try simp only [nrm] at h) <;> (try exact Bool.noConfusion h))
        all_goals try simp -dsimp [hlb, hwa, hs]
        all_goals try clear hs
        all_goals exact At.round ⟨(a + 1, g2, nl2), by simp only; omega⟩ (by simp only; omega) (Weak.of_drop [0,7,13,63,64,65] 3 (by simp) (by simp) (by simp))
    · obtain rfl : a = n.notes.length := by omega
      have hs : True := trivial
      repeat' first | (with_reducible first | refine q01 ?_ | refine q03 ?_ | refine q06 ?_ | refine q11 ?_ | refine q16 ?_ | refine q17 ?_) | (with_reducible refine At.fn_ret (by simp -dsimp [hla, hs]; exact rfl) ?_) | (with_reducible refine DT_regionE [0,1,2,6,7,9,10,11,12,13,14,15,16,17,20,21,22,23,36,37,38,40,41,42,51,63,64,65,66,74,75,76,77,104] ?_; simp -dsimp [hla, hs]) | (refine DT_cond rfl (fun h => ?_) (fun h => ?_) <;> (try simp only [nrm] at h) <;> (try exact Bool.noConfusion h))
      all_goals try simp -dsimp [hla, hs]
      all_goals try clear hs
      all_goals simp [clashL]
end Go.Proofs
namespace Go.Proofs
open Go Go.Ab
def inTab (n : Notes) (s w : List Int) (M : List Int) (m : Int) (a b : Nat) (x y : Nat) : Prop := x < y ∧ y < n.notes.length ∧ ((∃ m' ∈ M, frcAt n s w m' x = true ∧ frcAt n s w m' y = true) ∨ ((x < a ∨ x = a ∧ y < b) ∧ frcAt n s w m x = true ∧ frcAt n s w m y = true))
structure Tspec (n : Notes) (s w : List Int) (M : List Int) (m : Int) (a b : Nat) (L : List Bool) : Prop where
  len : L.length = 144
  at' : ∀ x y : Nat, x < 12 → y < 12 → (L[x * 12 + y]? = some true ↔ inTab n s w M m a b x y)
theorem Tspec.start (n : Notes) (s w : List Int) (m : Int) : Tspec n s w [] m 0 0 (List.replicate 144 false) := ⟨by simp, fun x y hx hy => by
  have : x * 12 + y < 144 := by omega
  rw [List.getElem?_replicate, if_pos this]
  simp [inTab]⟩
theorem Tspec.mark {n : Notes} {s w : List Int} {M : List Int} {m m' : Int} {b : Nat} {L : List Bool} (h : Tspec n s w M m n.notes.length b L) : Tspec n s w (M ++ [m]) m' 0 0 L := ⟨h.len, fun x y hx hy => by
  rw [h.at' x y hx hy]
  simp only [inTab, List.mem_append, List.mem_singleton]
  constructor
  · rintro ⟨h1, h2, h3 | ⟨h3, h4⟩⟩
    · obtain ⟨z, hz, hh⟩ := h3
      exact ⟨h1, h2, .inl ⟨z, .inl hz, hh⟩⟩
    · exact ⟨h1, h2, .inl ⟨m, .inr rfl, h4⟩⟩
  · rintro ⟨h1, h2, h3 | ⟨h3, h4⟩⟩
    · obtain ⟨z, hz | rfl, hh⟩ := h3
      · exact ⟨h1, h2, .inl ⟨z, hz, hh⟩⟩
      · exact ⟨h1, h2, .inr ⟨.inl (by omega), hh⟩⟩
    · omega⟩
theorem Tspec.row {n : Notes} {s w : List Int} {M : List Int} {m : Int} {a : Nat} {L : List Bool} (h : Tspec n s w M m a n.notes.length L) : Tspec n s w M m (a + 1) 0 L := ⟨h.len, fun x y hx hy => by
  rw [h.at' x y hx hy]
  simp only [inTab]
  refine and_congr_right fun h1 => and_congr_right fun h2 => or_congr_right (and_congr_left fun _ => ?_)
  omega⟩
theorem Tspec.put {n : Notes} {s w : List Int} {M : List Int} {m : Int} {a b : Nat} {L : List Bool} (h : Tspec n s w M m a b L) (hab : a < b) (hb : b < n.notes.length) (hn : n.notes.length ≤ 12) {v : Bool} (hv : L[a * 12 + b]? = some v) : Tspec n s w M m a (b + 1) (L.set (a * 12 + b) (v || (frcAt n s w m a && frcAt n s w m b))) := ⟨by rw [List.length_set]; exact h.len, fun x y hx hy => by
  have ho := h.at' x y hx hy
  by_cases e : x = a ∧ y = b
  · obtain ⟨rfl, rfl⟩ := e
    have hl : x * 12 + y < L.length := by rw [h.len]; omega
    rw [List.getElem?_set_self hl]
    rw [hv] at ho
    simp only [Option.some.injEq, Bool.or_eq_true, Bool.and_eq_true] at ho ⊢
    rw [ho]
    simp only [inTab]
    constructor
    · rintro (⟨h1, h2, h3⟩ | h4)
      · exact ⟨h1, h2, h3.imp id fun h3 => ⟨by omega, h3.2⟩⟩
      · exact ⟨hab, hb, .inr ⟨by simp, h4⟩⟩
    · rintro ⟨h1, h2, h3 | ⟨h3, h4⟩⟩
      · exact .inl ⟨h1, h2, .inl h3⟩
      · exact .inr h4
  · have hne : a * 12 + b ≠ x * 12 + y := by omega
    rw [List.getElem?_set_ne hne, ho]
    simp only [inTab]
    refine and_congr_right fun h1 => and_congr_right fun h2 => or_congr_right (and_congr_left fun _ => ?_)
    omega⟩
theorem Tspec.both {n : Notes} {s w : List Int} {M : List Int} {m : Int} {L : List Bool} (h : Tspec n s w M m 0 0 L) (hM : ∀ m', m' ∈ M ↔ m' ∈ marksP n.notes) {a b : Nat} (hab : a < b) (hb : b < n.notes.length) (hn : n.notes.length ≤ 12) : L[a * 12 + b]? = some (bothB n s w a b) := by
  have ho := h.at' a b (by omega) (by omega)
  have hl : a * 12 + b < L.length := by rw [h.len]; omega
  rw [List.getElem?_eq_getElem hl] at ho ⊢
  congr 1
  rw [Bool.eq_iff_iff]
  rw [Option.some.injEq] at ho
  rw [ho]
  simp only [inTab, bothB, List.any_eq_true, Bool.and_eq_true]
  constructor
  · rintro ⟨_, _, h3 | h3⟩
    · obtain ⟨z, hz, hh⟩ := h3
      exact ⟨z, (hM z).1 hz, hh⟩
    · omega
  · rintro ⟨z, hz, hh⟩
    exact ⟨hab, hb, .inl ⟨z, (hM z).2 hz, hh⟩⟩
end Go.Proofs
namespace Go.Ab
open Go
def bcs (L : List Bool) : List DC := L.map fun b => .im (.raw (.bool b))
@[simp] theorem zcells_rep : ∀ (n k : Nat), zcells (List.replicate n (.bool false)) k = (List.replicate n (.im (.raw (.bool false))), [])
  | 0, _ => rfl
  | n + 1, k => by rw [List.replicate_succ, List.replicate_succ, zcells, zcells_rep n k]; exact fun h => by cases h
@[simp] theorem fz_bcs (m : Nat) (O : List DObj) (L : List Bool) : (bcs L).map (fz m O) = bcs L := by
  simp only [bcs, List.map_map]
  exact List.map_congr_left fun x _ => by simp [fz]
end Go.Ab
namespace Go.Proofs
open Go Go.Ab
set_option linter.unusedSimpArgs false
variable {G : Nat → Option (List IC)}
end Go.Proofs
namespace Go.Proofs
open Go Go.Ab
set_option linter.unusedSimpArgs false
variable {G : Nat → Option (List IC)}
def clashR (n : Notes) (s : List Int) : List (Int × Int) := if askedE n s 1 = 0 then clashL n s [] else []
theorem samePairs_c (l : List (Int × Int)) (hl : l.length < 1000000) (objs : List DObj) : DCall Tryd.prog G 22 [prv l, prv l] objs (fun rr objs' => rr = bv true ∧ objs' = objs) := by
  refine DCall.frame ?_ (by simp) (by simp) objs
  refine DCall_intro Tryd.func22 rfl Tryd.ntmps22 (by simp) rfl ?_
  try simp only [iv]
  simp only [prv, bv]
  have hs : True := trivial
  repeat' first | (with_reducible first | refine q01 ?_ | refine q11 ?_ | refine q12 ?_ | refine q14 ?_) | (with_reducible refine DT_regionE [0,1,4,5,10,14,25] ?_; simp -dsimp [hs]) | (refine DT_cond rfl (fun h => ?_) (fun h => ?_) <;> (try simp only [nrm] at h) <;> (try exact Bool.noConfusion h))
  all_goals try simp -dsimp [hs]
  all_goals try clear hs
  refine DT_loop (ι := { k : Nat // k ≤ l.length }) (fun p => ⟨26, [(0, prv l), (1, prv l), (5, iv (p.1 : Int))], []⟩) (fun p => l.length - p.1) ⟨0, by simp⟩ (Weak.of_keep [0,1,5] (by simp)) ?_
  rintro ⟨k, hk⟩
  simp only [iv, prv]
  by_cases hlt : k < l.length
  · have hw : IntKind.i64.wrap ((k : Int) + 1) = ((k + 1 : Nat) : Int) := i64w (by omega) (by omega)
    generalize hx : l[k] = x
    obtain ⟨x1, x2⟩ := x
    have hs : True := trivial
    repeat' first | (with_reducible first | refine q01 ?_ | refine q04 ?_ | refine q11 ?_ | refine q12 ?_ | refine q14 ?_) | (refine DT_regionM (id := 6) (nt := 26) 9 [0,1,4,5,10,14,25] mixed rfl (by kernel_rfl) ?_; simp -dsimp [hx, hlt, hw, hs]) | (with_reducible refine DT_regionE [0,1,4,5,10,14,25] ?_; simp -dsimp [hx, hlt, hw, hs]) | (refine DT_cond rfl (fun h => ?_) (fun h => ?_) <;> (try simp only [nrm] at h) <;> (try exact Bool.noConfusion h))
    all_goals try simp -dsimp [hx, hlt, hw, hs]
    all_goals try clear hs
    exact At.round ⟨k + 1, by omega⟩ (by simp; omega) (Weak.of_keep [0,1,5] (by simp))
  · have hs : True := trivial
    repeat' first | (with_reducible first | refine q01 ?_ | refine q03 ?_ | refine q06 ?_ | refine q11 ?_ | refine q16 ?_ | refine q17 ?_) | (with_reducible refine At.fn_ret (by simp -dsimp [hlt, hs]; exact rfl) ?_) | (with_reducible refine DT_regionE [0,1,4,5,10,14,25] ?_; simp -dsimp [hlt, hs]) | (refine DT_cond rfl (fun h => ?_) (fun h => ?_) <;> (try simp only [nrm] at h) <;> (try exact Bool.noConfusion h))
    all_goals try simp -dsimp [hlt, hs]
    all_goals try clear hs
end Go.Proofs
namespace Go.Proofs
open Go Go.Ab
set_option linter.unusedSimpArgs false
variable {G : Nat → Option (List IC)}
theorem nClash_c (n : Notes) (s : List Int) (hG : sheetG G) (hN : noteG G) (hS : SortOk G) (hs : NSm n) (hsl : s.length < 1000) (objs : List DObj) : DCall Tryd.prog G 16 [notesv n, isv s] objs (fun rr objs' => rr = .tup [prv (clashR n s), iv (askedE n s 1)] ∧ objs' = objs) := by
  refine DCall.frame ?_ (by simp) (by simp) objs
  refine DCall_intro Tryd.func16 rfl Tryd.ntmps16 (by simp) rfl ?_
  try simp only [notesv, isv]
  have c1 := asked_c n s 1 hG hN hS hs hsl
  unfold clashR
  by_cases h0 : askedE n s 1 = 0
  · rw [h0, show askedR n s 1 = .one (.im (fileI n)) by unfold askedR; rw [if_pos h0]] at c1
    have hnk := notes_ok (asked_ok h0).1
    have c2 := clash_c (G := G) n s [] hS hnk.2.2.1 (by omega) hsl (by simp)
    simp only [fileI, isv, iv, List.map_nil] at c1 c2
    rw [if_pos h0]
    have hs : True := trivial
    repeat' first | (with_reducible first | refine q01 ?_ | refine q11 ?_ | refine q14 ?_ | refine q17 ?_) | (with_reducible refine At.fn_ret (by simp -dsimp [hs]; exact rfl) ?_) | (refine CallE.pure (c1) ?_; try simp -dsimp [hs]) | (refine CallE.pure (c2) ?_; try simp -dsimp [hs]) | (with_reducible refine DT_regionE [0,1,2,4,5,6,7,15] ?_; simp -dsimp [hs]) | (refine DT_cond rfl (fun h => ?_) (fun h => ?_) <;> (try simp only [nrm] at h) <;> (try exact Bool.noConfusion h))
    all_goals try simp -dsimp [hs]
    all_goals try clear hs
    all_goals simp [h0]
  · rw [show askedR n s 1 = .one (.im (.raw (.pointer none))) by unfold askedR; rw [if_neg h0]] at c1
    rw [if_neg h0]
    simp only [isv, iv] at c1
    have hs : True := trivial
    repeat' first | (with_reducible first | refine q01 ?_ | refine q02 ?_ | refine q11 ?_ | refine q17 ?_) | (with_reducible refine At.fn_ret (by simp -dsimp [h0, hs]; exact rfl) ?_) | (refine CallE.pure (c1) ?_; try simp -dsimp [h0, hs]) | (with_reducible refine DT_regionE [0,1,2,4,5,6,7,15] ?_; simp -dsimp [h0, hs]) | (refine DT_cond rfl (fun h => ?_) (fun h => ?_) <;> (try simp only [nrm] at h) <;> (try exact Bool.noConfusion h))
    all_goals try simp -dsimp [h0, hs]
    all_goals try clear hs
    all_goals simp [h0]
end Go.Proofs
namespace Go.Ab
open Go
end Go.Ab
namespace Go.Proofs
open Go Go.Ab
set_option linter.unusedSimpArgs false
variable {G : Nat → Option (List IC)}
end Go.Proofs
namespace Go.Ab
open Go
end Go.Ab
namespace Go.Proofs
open Go Go.Ab
set_option linter.unusedSimpArgs false
variable {G : Nat → Option (List IC)}
end Go.Proofs
namespace Go.Ab
open Go
end Go.Ab
namespace Go.Proofs
open Go Go.Ab
set_option linter.unusedSimpArgs false
variable {G : Nat → Option (List IC)}
end Go.Proofs
namespace Go.Proofs
open Go Go.Ab
end Go.Proofs
namespace Go.Proofs
open Go Go.Ab
def clN (n : Notes) (s L : List Int) : Bool := decide ((clashL n s L).length = 0)
def wS (n : Notes) (s : List Int) : List Int := (sizesL (clN n s) (isort (n.notes.map fun x => x.number)) (n.notes.length + 1)).getD []
end Go.Proofs
namespace Go.Proofs
open Go Go.Ab
set_option linter.unusedSimpArgs false
variable {G : Nat → Option (List IC)}
attribute [simp] permL reO gones noLoop nilV nilX
theorem cloneN_c (l : List Int) (hl : l.length < 1000) : DCall Tryd.prog G 48 [isv l] [] (fun d o => ∃ i : Nat × Bool, (i.2 = true → l = []) ∧ d = .one (.vec 1 i.1 0 l.length) ∧ o = [.vec 1 [] 0 true, .vec 1 (ims (l.map encI)) i.1 i.2]) := by
  refine DCall_intro Tryd.func48 rfl Tryd.ntmps48 (by simp) rfl ?_
  simp only [isv]
  have hs : True := trivial
  repeat' first | (with_reducible first | refine q01 ?_ | refine q02 ?_ | refine q11 ?_ | refine q14 ?_ | refine q17 ?_ | refine And.intro (by omega) ?_) | (with_reducible refine At.fn_ret (by simp -dsimp [hs]; exact rfl) ?_) | (with_reducible refine DT_regionE [0,2,4] ?_; simp -dsimp [hs]) | (refine DT_cond rfl (fun h => ?_) (fun h => ?_) <;> (try simp only [nrm] at h) <;> (try exact Bool.noConfusion h)) | (with_reducible refine imp_At (fun h => ?_); (try simp only [List.map_eq_nil_iff] at h); (try subst h); try simp -dsimp [hs]) | with_reducible refine And.intro ?_ ?_
  all_goals try simp -dsimp [hs]
  all_goals try clear hs
def wObjs (n : Notes) (s A : List Int) (g sz : Nat) (nl : Bool) : List DObj := [.row [.im (fileI n)], .row [.im (.sl (s.map encI))], .row [.vec 3 g 0 A.length], .vec sz (ims (A.map encI)) g nl, .row [.fn (.func 47) [.ptr 0 0, .ptr 1 0, .ptr 2 0, .ptr 4 0]]]
theorem list_c (n : Notes) (s A : List Int) (g sz : Nat) (nl : Bool) (hz : (sz = 1 ∧ nl = false) ∨ A = []) (hS : SortOk G) (hok : allOk n) (hn : n.notes.length ≤ 16) (hsl : s.length < 1000) (hA : A.length ≤ 16) : ∀ (k fr : Nat) (l : List Int), fr ≤ A.length → l.length + k ≤ 16 →
    DCall Tryd.prog G 47 [iv (fr : Int), iv (k : Int), isv l, .one (.ptr 0 0), .one (.ptr 1 0), .one (.ptr 2 0), .one (.ptr 4 0)] (wObjs n s A g sz nl) (fun d o => d = resV (findL (clN n s) (A.drop fr) k l) ∧ o = wObjs n s A g sz nl) := by
  intro k
  induction k with
  | zero =>
    intro fr l hfr hll
    have c1 := clash_c (G := G) n s l hS hok hn hsl (by omega)
    have e : findL (clN n s) (A.drop fr) 0 l = if (clashL n s l).length = 0 then some l else none := by rw [findL_zero]; simp [clN]
    refine DCall.drop (DCall.nil ?_)
    refine DCall_intro Tryd.func47 rfl Tryd.ntmps47 (by simp) rfl ?_
    simp only [iv, isv, wObjs, fileI] at c1 ⊢
    rw [e]
    generalize clashL n s l = C at *
    by_cases hC : C.length = 0
    · have hs : True := trivial
      repeat' first | (with_reducible first | refine q01 ?_ | refine q02 ?_ | refine q11 ?_ | refine q17 ?_) | (with_reducible refine At.fn_ret (by simp -dsimp [hC, hs]; exact rfl) ?_) | (refine CallE.pure (c1) ?_; try simp -dsimp [hC, hs]) | (with_reducible refine DT_regionE [0,1,2,3,4,5,6,10,11,12,14,20,28,46] ?_; simp -dsimp [hC, hs]) | (refine DT_cond rfl (fun h => ?_) (fun h => ?_) <;> (try simp only [nrm] at h) <;> (try exact Bool.noConfusion h)) | with_reducible refine And.intro ?_ ?_
      all_goals try simp -dsimp [hC, hs]
      all_goals try clear hs
      all_goals simp [resV]
    · have hC' : ¬ ((C.length : Int) = 0) := by omega
      have hs : True := trivial
      repeat' first | (with_reducible first | refine q01 ?_ | refine q02 ?_ | refine q11 ?_ | refine q14 ?_ | refine q17 ?_) | (with_reducible refine At.fn_ret (by simp -dsimp [hC, hC', hs]; exact rfl) ?_) | (refine CallE.pure (c1) ?_; try simp -dsimp [hC, hC', hs]) | (with_reducible refine DT_regionE [0,1,2,3,4,5,6,10,11,12,14,20,28,46] ?_; simp -dsimp [hC, hC', hs]) | (refine DT_cond rfl (fun h => ?_) (fun h => ?_) <;> (try simp only [nrm] at h) <;> (try exact Bool.noConfusion h)) | with_reducible refine And.intro ?_ ?_
      all_goals try simp -dsimp [hC, hC', hs]
      all_goals try clear hs
      all_goals simp [resV]
  | succ k ih =>
    intro fr l hfr hll
    have hk0 : ¬ (k : Int) + 1 = 0 := by omega
    have hcl := cloneN_c (G := G) l (by omega)
    refine DCall.drop (DCall.nil ?_)
    refine DCall_intro Tryd.func47 rfl Tryd.ntmps47 (by simp) rfl ?_
    rw [show ((k + 1 : Nat) : Int) = (k : Int) + 1 from rfl]
    simp only [iv, isv, wObjs, fileI] at ih hcl ⊢
    have hs : True := trivial
    repeat' first | (with_reducible first | refine q01 ?_ | refine q11 ?_ | refine q12 ?_ | refine q14 ?_) | (with_reducible refine DT_regionE [0,1,2,3,4,5,6,10,11,12,14,20,28,46] ?_; simp -dsimp [hk0, hs]) | (refine DT_cond rfl (fun h => ?_) (fun h => ?_) <;> (try simp only [nrm] at h) <;> (try exact Bool.noConfusion h))
    all_goals try simp -dsimp [hk0, hs]
    all_goals try clear hs
    refine DT_loop (ι := { i : Nat // fr ≤ i ∧ i ≤ A.length ∧ findL (clN n s) (A.drop fr) (k + 1) l = findL (clN n s) (A.drop i) (k + 1) l }) (fun p => ⟨48, [(1, iv ((k : Int) + 1)), (2, isv l), (3, .one (.ptr 0 0)), (4, .one (.ptr 1 0)), (5, .one (.ptr 2 0)), (6, .one (.ptr 4 0)), (11, iv (p.1 : Int))], wObjs n s A g sz nl⟩) (fun p => A.length - p.1) ⟨fr, Nat.le_refl _, hfr, rfl⟩ (Weak.of_drop [1,2,3,4,5,6,11] 5 (by simp) (by simp) (by simp [wObjs, fileI])) ?_
    rintro ⟨i, hfi, hiA, hf⟩
    simp only [iv, isv, wObjs, fileI]
    have hw1 : IntKind.i64.wrap ((i : Int) + ((k : Int) + 1)) = (i : Int) + ((k : Int) + 1) := i64w (by omega) (by omega)
    by_cases hlt : i + (k + 1) ≤ A.length
    · have hlti : (i : Int) + ((k : Int) + 1) ≤ A.length := by omega
      have hiL : i < A.length := by omega
      obtain ⟨rfl, rfl⟩ := hz.resolve_right (fun e => by rw [e] at hiL; simp at hiL)
      have hw2 : IntKind.i64.wrap ((i : Int) + 1) = ((i + 1 : Nat) : Int) := i64w (by omega) (by omega)
      have hw3 : IntKind.i64.wrap (k : Int) = k := i64w (by omega) (by omega)
      have hat := findL_at (p := clN n s) (k := k) (l := l) hiL
      have c2 := ih (i + 1) (l ++ [A[i]]) (by omega) (by simp; omega)
      generalize hx : A[i] = x at *
      generalize hF : findL (clN n s) (A.drop (i + 1)) k (l ++ [x]) = r at *
      have hfz : ∀ (m : Nat) (O : List DObj), mapO (mapO (frz 19 m O)) (List.take (l.length + 1) (ims (l.map encI) ++ [[DC.im (.raw (.int .i64 x))]])) = some (l.map encI ++ [[.raw (.int .i64 x)]]) := fun m O => by
        rw [List.take_of_length_le (by simp), show ims (l.map encI) ++ [[DC.im (.raw (.int .i64 x))]] = ims (l.map encI ++ [[.raw (.int .i64 x)]]) by simp]
        exact mapO_ims _ _ _ _
      cases r with
      | none =>
        simp only [resV] at c2
        have hs : True := trivial
        repeat' first | (with_reducible first | refine q01 ?_ | refine q04 ?_ | refine q11 ?_ | refine q12 ?_ | refine q14 ?_ | refine And.intro (by omega) ?_) | (refine DT_regionY (id := 8) (nt := 48) [0,1,2,3,4,5,7,8,9,10,11,6,12,13,14] 11 [0,1,2,3,4,6,7,8,9,10] [0,1,2,3,4] [0,1,2,3,4,5,6,10,11,12,14,20,28,36,46] [0,1,2,3,4,5,6,10,11,12,14,20,28,37,42,46] [0,1,2,3,4,5,6,10,11,12,14,20,28,46] mixed rfl (by kernel_rfl) (by kernel_rfl) ?_; try simp -dsimp [hw1, hw2, hw3, hlti, hiL, hx, hs]) | (refine CallE.embed_ex [] (hcl) ?_ ?_ ?_ ?_ ?_ ?_; (focus (simp [emb]; done)); (focus (simp; done)); (focus (simp; done)); (focus (simp; done)); (focus (refine emb_all ?_; simp [emb, embAll]; done)); intro mm hmm; try simp -dsimp [mergeO, emb, hw1, hw2, hw3, hlti, hiL, hx, hs]) | (refine CallE.idle ?_; refine CallE.freeze 5 c2 ?_ ?_ ?_ ?_ ?_ ?_; (focus (simp; done)); (focus (simp [hfz]; done)); (focus (simp; done)); (focus rfl); (focus (simp; done)); try simp; try simp -dsimp [hw1, hw2, hw3, hlti, hiL, hx, hs]) | (with_reducible refine DT_regionE [0,1,2,3,4,5,6,10,11,12,14,20,28,46] ?_; simp -dsimp [hw1, hw2, hw3, hlti, hiL, hx, hs]) | (refine DT_cond rfl (fun h => ?_) (fun h => ?_) <;> (try simp only [nrm] at h) <;> (try exact Bool.noConfusion h))
        all_goals try simp -dsimp [hw1, hw2, hw3, hlti, hiL, hx, hs]
        all_goals try clear hs
        all_goals exact At.round ⟨i + 1, by omega, by omega, by rw [hf, hat]⟩ (by simp only; omega) (Weak.of_drop [1,2,3,4,5,6,11] 5 (by simp) (by simp) (by simp [wObjs, fileI]))
      | some y =>
        have hy : y ≠ [] := fun e => by
          have := findL_len _ _ _ _ hF
          rw [e] at this; simp only [List.length_nil, List.length_append, List.length_cons] at this; omega
        simp only [resV, isv] at c2
        have hs : True := trivial
        repeat' first | (with_reducible first | refine q01 ?_ | refine q02 ?_ | refine q05 ?_ | refine q11 ?_ | refine q12 ?_ | refine q14 ?_ | refine q17 ?_ | refine And.intro (by omega) ?_) | (with_reducible refine At.fn_ret (by simp -dsimp [hw1, hw2, hw3, hlti, hiL, hx, hy, hs]; exact rfl) ?_) | (refine DT_regionY (id := 8) (nt := 48) [0,1,2,3,4,5,7,8,9,10,11,6,12,13,14] 11 [0,1,2,3,4,6,7,8,9,10] [0,1,2,3,4] [0,1,2,3,4,5,6,10,11,12,14,20,28,36,46] [0,1,2,3,4,5,6,10,11,12,14,20,28,37,42,46] [0,1,2,3,4,5,6,10,11,12,14,20,28,46] mixed rfl (by kernel_rfl) (by kernel_rfl) ?_; try simp -dsimp [hw1, hw2, hw3, hlti, hiL, hx, hy, hs]) | (refine CallE.embed_ex [] (hcl) ?_ ?_ ?_ ?_ ?_ ?_; (focus (simp [emb]; done)); (focus (simp; done)); (focus (simp; done)); (focus (simp; done)); (focus (refine emb_all ?_; simp [emb, embAll]; done)); intro mm hmm; try simp -dsimp [mergeO, emb, hw1, hw2, hw3, hlti, hiL, hx, hy, hs]) | (refine CallE.freeze 5 c2 ?_ ?_ ?_ ?_ ?_ ?_; (focus (simp; done)); (focus (simp [hfz]; done)); (focus (simp; done)); (focus rfl); (focus (simp; done)); try simp; try simp -dsimp [hw1, hw2, hw3, hlti, hiL, hx, hy, hs]) | (with_reducible refine DT_regionE [0,1,2,3,4,5,6,10,11,12,14,20,28,46] ?_; simp -dsimp [hw1, hw2, hw3, hlti, hiL, hx, hy, hs]) | (refine DT_cond rfl (fun h => ?_) (fun h => ?_) <;> (try simp only [nrm] at h) <;> (try exact Bool.noConfusion h)) | with_reducible refine And.intro ?_ ?_
        all_goals try simp -dsimp [hw1, hw2, hw3, hlti, hiL, hx, hy, hs]
        all_goals try clear hs
        all_goals simp [hf, hat, resV]
    · have hlti : ¬ (i : Int) + ((k : Int) + 1) ≤ A.length := by omega
      have hno : findL (clN n s) (A.drop fr) (k + 1) l = none := by rw [hf]; exact findL_short _ _ _ (by simp; omega)
      have hs : True := trivial
      repeat' first | (with_reducible first | refine q01 ?_ | refine q03 ?_ | refine q06 ?_ | refine q11 ?_ | refine q16 ?_ | refine q17 ?_) | (with_reducible refine At.fn_ret (by simp -dsimp [hw1, hlti, hs]; exact rfl) ?_) | (with_reducible refine DT_regionE [0,1,2,3,4,5,6,10,11,12,14,20,28,46] ?_; simp -dsimp [hw1, hlti, hs]) | (refine DT_cond rfl (fun h => ?_) (fun h => ?_) <;> (try simp only [nrm] at h) <;> (try exact Bool.noConfusion h)) | with_reducible refine And.intro ?_ ?_
      all_goals try simp -dsimp [hw1, hlti, hs]
      all_goals try clear hs
      all_goals simp [hno, resV]
theorem listB_c (n : Notes) (s A : List Int) (g sz : Nat) (nl : Bool) (hS : SortOk G) (hok : allOk n) (hn : n.notes.length ≤ 16) (hsl : s.length < 1000) :
    DCall Tryd.prog G 47 [iv 0, iv 0, .one (.vec 5 0 0 0), .one (.ptr 0 0), .one (.ptr 1 0), .one (.ptr 2 0), .one (.ptr 4 0)] (wObjs n s A g sz nl ++ [.vec 1 [] 0 false]) (fun d o => d = (if (clashL n s []).length = 0 then .one (.vec 5 0 0 0) else .one (.im (.raw (.slice none 0 0)))) ∧ o = wObjs n s A g sz nl ++ [.vec 1 [] 0 false]) := by
  have c1 := clash_c (G := G) n s [] hS hok hn hsl (by simp)
  refine DCall.drop (DCall.nil ?_)
  refine DCall_intro Tryd.func47 rfl Tryd.ntmps47 (by simp) rfl ?_
  simp only [iv, isv, wObjs, fileI, List.map_nil] at c1 ⊢
  generalize clashL n s [] = C at *
  by_cases hC : C.length = 0
  · have hs : True := trivial
    repeat' first | (with_reducible first | refine q01 ?_ | refine q02 ?_ | refine q11 ?_ | refine q17 ?_) | (with_reducible refine At.fn_ret (by simp -dsimp [hC, hs]; exact rfl) ?_) | (refine CallE.empty ?_ (CallE.pure c1 ?_); (focus rfl); try simp -dsimp [hC, hs]) | (with_reducible refine DT_regionE [0,1,2,3,4,5,6,10,11,12,14,20,28,46] ?_; simp -dsimp [hC, hs]) | (refine DT_cond rfl (fun h => ?_) (fun h => ?_) <;> (try simp only [nrm] at h) <;> (try exact Bool.noConfusion h)) | with_reducible refine And.intro ?_ ?_
    all_goals try simp -dsimp [hC, hs]
    all_goals try clear hs
  · have hC' : ¬ ((C.length : Int) = 0) := by omega
    have hs : True := trivial
    repeat' first | (with_reducible first | refine q01 ?_ | refine q02 ?_ | refine q11 ?_ | refine q14 ?_ | refine q17 ?_) | (with_reducible refine At.fn_ret (by simp -dsimp [hC, hC', hs]; exact rfl) ?_) | (refine CallE.empty ?_ (CallE.pure c1 ?_); (focus rfl); try simp -dsimp [hC, hC', hs]) | (with_reducible refine DT_regionE [0,1,2,3,4,5,6,10,11,12,14,20,28,46] ?_; simp -dsimp [hC, hC', hs]) | (refine DT_cond rfl (fun h => ?_) (fun h => ?_) <;> (try simp only [nrm] at h) <;> (try exact Bool.noConfusion h)) | with_reducible refine And.intro ?_ ?_
    all_goals try simp -dsimp [hC, hC', hs]
    all_goals try clear hs
end Go.Proofs
namespace Go.Proofs
open Go Go.Ab
set_option linter.unusedSimpArgs false
variable {G : Nat → Option (List IC)}
def nbrL (l : List Note) : List Int := l.map fun x => x.number
def wE (n : Notes) (s : List Int) : List Int := if askedE n s 1 = 0 then wS n s else []
theorem isort_length (l : List Int) : (isort l).length = l.length := (List.mergeSort_perm l _).length_eq
theorem nbrL_len (l : List Note) : (nbrL l).length = l.length := by simp [nbrL]
set_option maxHeartbeats 4000000 in
theorem nWithdraw_c (n : Notes) (s : List Int) (hG : sheetG G) (hN : noteG G) (hS : SortOk G) (hs : NSm n) (hsl : s.length < 1000) (objs : List DObj) : DCall Tryd.prog G 17 [notesv n, isv s] objs (fun rr objs' => rr = .tup [isv (wE n s), iv (askedE n s 1)] ∧ objs' = objs) := by
  refine DCall.frame ?_ (by simp) (by simp) objs
  refine DCall_intro Tryd.func17 rfl Tryd.ntmps17 (by simp) rfl ?_
  try simp only [notesv, isv]
  have c1 := asked_c n s 1 hG hN hS hs hsl
  by_cases h0 : askedE n s 1 = 0
  · rw [h0, show askedR n s 1 = .one (.im (fileI n)) by unfold askedR; rw [if_pos h0]] at c1
    have hnk := notes_ok (asked_ok h0).1
    have hlen := hnk.2.1
    have hsr : wE n s = (sizesL (clN n s) (isort (n.notes.map fun x => x.number)) (n.notes.length + 1)).getD [] := by unfold wE wS; rw [if_pos h0]
    simp only [fileI, isv, iv, List.map_nil] at c1
    have hs : True := trivial
    repeat' first | (with_reducible first | refine q01 ?_ | refine q11 ?_ | refine q12 ?_ | refine q14 ?_) | (refine CallE.pure (c1) ?_; try simp -dsimp [hs]) | (with_reducible refine DT_regionE [0,1,2,3,4,5,6,7,8,10,11,12,13,21,24,25,26,27,41,42,43,50] ?_; simp -dsimp [hs]) | (refine DT_cond rfl (fun h => ?_) (fun h => ?_) <;> (try simp only [nrm] at h) <;> (try exact Bool.noConfusion h))
    all_goals try simp -dsimp [hs]
    all_goals try clear hs
    refine DT_loop (ι := { p : Nat × Nat × Nat × Bool // p.1 ≤ n.notes.length ∧ ((p.2.2.1 = 1 ∧ p.2.2.2 = false) ∨ (p.2.2.1 = 0 ∧ p.2.2.2 = true ∧ p.1 = 0)) }) (fun p => ⟨53, [(3, .one (.ptr 1 0)), (4, .one (.vec 2 0 0 0)), (5, iv 0), (6, .one (.ptr 3 0)), (8, .one (.ptr 5 0)), (24, .one (.im (.sl (n.notes.map encNote)))), (25, iv (n.notes.length : Int)), (26, iv (p.1.1 : Int))], [.row [.im (.sl (n.reg.map encIssue)), .im (.sl (n.notes.map encNote))], .row [.im (.sl (s.map encI))], .vec 1 [] 0 true, .row [.im (fileI n)], .vec p.1.2.2.1 (ims ((nbrL (n.notes.take p.1.1)).map encI)) p.1.2.1 p.1.2.2.2, .row [.vec 4 p.1.2.1 0 p.1.1]]⟩) (fun p => n.notes.length - p.1.1) ⟨(0, 0, 0, true), by simp⟩ (Weak.of_keep [3,4,5,6,8,24,25,26] (by simp [fileI, nbrL])) ?_
    rintro ⟨⟨k, g, sz, nl⟩, hk, hz⟩
    simp only at hk hz
    simp only [iv, fileI]
    by_cases hlt : k < n.notes.length
    · have hw : IntKind.i64.wrap ((k : Int) + 1) = ((k + 1 : Nat) : Int) := i64w (by omega) (by omega)
      have htk : nbrL (n.notes.take (k + 1)) = nbrL (n.notes.take k) ++ [n.notes[k].number] := by rw [List.take_succ_eq_append_getElem hlt]; simp only [nbrL, List.map_append, List.map_cons, List.map_nil]
      have hll : (nbrL (n.notes.take k)).length = k := by rw [nbrL_len]; simp; omega
      generalize hx : n.notes[k] = x at *
      generalize nbrL (n.notes.take k) = L at *
      rcases hz with ⟨rfl, rfl⟩ | ⟨rfl, rfl, rfl⟩
      · subst hll
        have hs : True := trivial
        repeat' first | (with_reducible first | refine q01 ?_ | refine q04 ?_ | refine q11 ?_ | refine q12 ?_ | refine q14 ?_ | refine And.intro (by omega) ?_) | (with_reducible refine DT_regionE [0,1,2,3,4,5,6,7,8,10,11,12,13,21,24,25,26,27,41,42,43,50] ?_; simp -dsimp [hx, hlt, hw, hs]) | (refine DT_cond rfl (fun h => ?_) (fun h => ?_) <;> (try simp only [nrm] at h) <;> (try exact Bool.noConfusion h))
        all_goals try simp -dsimp [hx, hlt, hw, hs]
        all_goals try clear hs
        all_goals exact At.round ⟨(L.length + 1, g + 1, 1, false), by omega, .inl ⟨rfl, rfl⟩⟩ (by simp only; omega) (Weak.of_drop [3,4,5,6,8,24,25,26] 6 (by simp) (by simp) (by simp [htk, fileI]))
      · obtain rfl := List.eq_nil_of_length_eq_zero hll
        have hw1 : IntKind.i64.wrap 1 = 1 := i64w (by omega) (by omega)
        have hs : True := trivial
        repeat' first | (with_reducible first | refine q01 ?_ | refine q04 ?_ | refine q11 ?_ | refine q12 ?_ | refine q14 ?_) | (with_reducible refine DT_regionE [0,1,2,3,4,5,6,7,8,10,11,12,13,21,24,25,26,27,41,42,43,50] ?_; simp -dsimp [hx, hlt, hw, hw1, hs]) | (refine DT_cond rfl (fun h => ?_) (fun h => ?_) <;> (try simp only [nrm] at h) <;> (try exact Bool.noConfusion h))
        all_goals try simp -dsimp [hx, hlt, hw, hw1, hs]
        all_goals try clear hs
        all_goals exact At.round ⟨(1, g + 1, 1, false), by omega, .inl ⟨rfl, rfl⟩⟩ (by simp only; omega) (Weak.of_drop [3,4,5,6,8,24,25,26] 6 (by simp) (by simp) (by simp [htk, fileI, hw1]))
    · obtain rfl : k = n.notes.length := by omega
      rw [List.take_of_length_le (Nat.le_refl _)]
      have hL : (nbrL n.notes).length = n.notes.length := nbrL_len _
      have hz1 : sz = 1 ∨ nl = true ∧ nbrL n.notes = [] := hz.imp And.left fun h => ⟨h.2.1, List.eq_nil_of_length_eq_zero (by omega)⟩
      have hz2 : (sz = 1 ∧ nl = false) ∨ isort (nbrL n.notes) = [] := hz.imp id fun h => List.eq_nil_of_length_eq_zero (by rw [isort_length]; omega)
      have hAl : (isort (nbrL n.notes)).length = n.notes.length := by rw [isort_length, hL]
      have c2 := hS (nbrL n.notes) g sz nl hz1 (by omega)
      rw [show (n.notes.map fun x => x.number) = nbrL n.notes from rfl] at hsr
      have c3 := listB_c n s (isort (nbrL n.notes)) g sz nl hS hnk.2.2.1 (by omega) hsl
      have c4 := fun k hk => list_c n s (isort (nbrL n.notes)) g sz nl hz2 hS hnk.2.2.1 (by omega) hsl (by omega) k 0 [] (by omega) hk
      rw [hL] at c2
      generalize hA : isort (nbrL n.notes) = A at *
      simp only [wObjs, hAl, fileI, iv, isv, List.map_nil, List.length_nil, List.drop_zero] at c3 c4
      have hwl : IntKind.i64.wrap ((n.notes.length : Int) + 1) = (n.notes.length : Int) + 1 := i64w (by omega) (by omega)
      have hs : True := trivial
      repeat' first | (with_reducible first | refine q01 ?_ | refine q03 ?_ | refine q06 ?_ | refine q11 ?_ | refine q12 ?_ | refine q16 ?_) | (refine CallE.embed [4] (c2) ?_ ?_ ?_ ?_ ?_ ?_; (focus (simp [emb]; done)); (focus (simp; done)); (focus (simp; done)); (focus (simp; done)); (focus (refine emb_all ?_; simp [emb, embAll]; done)); try simp -dsimp [mergeO, emb, hlt, hwl, hs]) | (with_reducible refine DT_regionE [0,1,2,3,4,5,6,7,8,10,11,12,13,21,24,25,26,27,41,42,43,50] ?_; simp -dsimp [hlt, hwl, hs]) | (refine DT_cond rfl (fun h => ?_) (fun h => ?_) <;> (try simp only [nrm] at h) <;> (try exact Bool.noConfusion h))
      all_goals try simp -dsimp [hlt, hwl, hs]
      all_goals try clear hs
      refine DT_loop (ι := { k : Nat // k ≤ n.notes.length + 1 ∧ sizesL (clN n s) A k = none }) (fun p => ⟨53, [(4, .one (.vec 2 0 0 0)), (5, iv 0), (11, .one (.ptr 6 0)), (41, iv ((n.notes.length : Int) + 1)), (42, iv (p.1 : Int))], [.row [.im (.sl (n.reg.map encIssue)), .im (.sl (n.notes.map encNote))], .row [.im (.sl (s.map encI))], .vec 1 [] 0 true, .row [.im (fileI n)], .vec sz (ims (A.map encI)) g nl, .row [.vec 4 g 0 n.notes.length], .row [.fn (.func 47) [.ptr 3 0, .ptr 1 0, .ptr 5 0, .ptr 6 0]]]⟩) (fun p => n.notes.length + 1 - p.1) ⟨0, by simp, rfl⟩ (Weak.of_keep [4,5,11,41,42] (by simp [fileI, hwl])) ?_
      rintro ⟨k, hk, hn0⟩
      simp only [iv, fileI]
      by_cases hlk : k < n.notes.length + 1
      · have hlki : (k : Int) < (n.notes.length : Int) + 1 := by omega
        have hw : IntKind.i64.wrap ((k : Int) + 1) = ((k + 1 : Nat) : Int) := i64w (by omega) (by omega)
        have hnx := sizesL_next hn0
        by_cases hk0 : k = 0
        · subst hk0
          have hf0 : findL (clN n s) A 0 [] = if (clashL n s []).length = 0 then some [] else none := by rw [findL_zero]; simp [clN]
          by_cases hC : (clashL n s []).length = 0
          · rw [if_pos hC] at c3 hf0
            have hR : wE n s = [] := by rw [hsr, sizesL_hit hn0 hf0 (by omega)]; rfl
            have hs : True := trivial
            repeat' first | (with_reducible first | refine q01 ?_ | refine q02 ?_ | refine q05 ?_ | refine q11 ?_ | refine q12 ?_ | refine q14 ?_ | refine q17 ?_) | (with_reducible refine At.fn_ret (by simp -dsimp [hlki, hs]; exact rfl) ?_) | (refine CallE.embed [3,1,5,4,6,7] (c3) ?_ ?_ ?_ ?_ ?_ ?_; (focus (simp [emb]; done)); (focus (simp; done)); (focus (simp; done)); (focus (simp; done)); (focus (refine emb_all ?_; simp [emb, embAll]; done)); try simp -dsimp [mergeO, emb, hlki, hs]) | (with_reducible refine DT_regionE [0,1,2,3,4,5,6,7,8,10,11,12,13,21,24,25,26,27,41,42,43,50] ?_; simp -dsimp [hlki, hs]) | (refine DT_cond rfl (fun h => ?_) (fun h => ?_) <;> (try simp only [nrm] at h) <;> (try exact Bool.noConfusion h))
            all_goals try simp -dsimp [hlki, hs]
            all_goals try clear hs
            all_goals simp [hR, h0]
          · rw [if_neg hC] at c3 hf0
            rw [hf0] at hnx
            have hs : True := trivial
            repeat' first | (with_reducible first | refine q01 ?_ | refine q04 ?_ | refine q11 ?_ | refine q12 ?_ | refine q14 ?_) | (refine CallE.idle ?_; refine CallE.embed [3,1,5,4,6,7] (c3) ?_ ?_ ?_ ?_ ?_ ?_; (focus (simp [emb]; done)); (focus (simp; done)); (focus (simp; done)); (focus (simp; done)); (focus (refine emb_all ?_; simp [emb, embAll]; done)); try simp -dsimp [mergeO, emb]; try simp -dsimp [hlki, hs]) | (with_reducible refine DT_regionE [0,1,2,3,4,5,6,7,8,10,11,12,13,21,24,25,26,27,41,42,43,50] ?_; simp -dsimp [hlki, hs]) | (refine DT_cond rfl (fun h => ?_) (fun h => ?_) <;> (try simp only [nrm] at h) <;> (try exact Bool.noConfusion h))
            all_goals try simp -dsimp [hlki, hs]
            all_goals try clear hs
            all_goals exact At.round ⟨1, by omega, hnx⟩ (by simp only; omega) (Weak.of_drop [4,5,11,41,42] 7 (by simp) (by simp) (by simp [fileI, i64w]))
        · have c5 := c4 k (by simp; omega)
          generalize hF : findL (clN n s) A k [] = r at *
          cases r with
          | none =>
            simp only [resV] at c5
            have hs : True := trivial
            repeat' first | (with_reducible first | refine q01 ?_ | refine q04 ?_ | refine q11 ?_ | refine q12 ?_ | refine q14 ?_) | (refine CallE.idle ?_; refine CallE.empty (args' := [.one (.im (.raw (.int .i64 0))), .one (.im (.raw (.int .i64 (k : Int)))), .one (.im (.sl [])), .one (.ptr 3 0), .one (.ptr 1 0), .one (.ptr 5 0), .one (.ptr 6 0)]) rfl ?_; refine CallE.embed [3,1,5,4,6] (c5) ?_ ?_ ?_ ?_ ?_ ?_; (focus (simp [emb]; done)); (focus (simp; done)); (focus (simp; done)); (focus (simp; done)); (focus (refine emb_all ?_; simp [emb, embAll]; done)); try simp -dsimp [mergeO, emb]; try simp -dsimp [hlki, hw, hs]) | (with_reducible refine DT_regionE [0,1,2,3,4,5,6,7,8,10,11,12,13,21,24,25,26,27,41,42,43,50] ?_; simp -dsimp [hlki, hw, hs]) | (refine DT_cond rfl (fun h => ?_) (fun h => ?_) <;> (try simp only [nrm] at h) <;> (try exact Bool.noConfusion h))
            all_goals try simp -dsimp [hlki, hw, hs]
            all_goals try clear hs
            all_goals exact At.round ⟨k + 1, by omega, hnx⟩ (by simp only; omega) (Weak.of_drop [4,5,11,41,42] 7 (by simp) (by simp) (by simp [fileI]))
          | some y =>
            have hy : y ≠ [] := fun e => by
              have := findL_len _ _ _ _ hF
              rw [e] at this; simp only [List.length_nil] at this; omega
            have hR : wE n s = y := by rw [hsr, sizesL_hit hn0 hF hlk]; rfl
            simp only [resV, isv] at c5
            have hs : True := trivial
            repeat' first | (with_reducible first | refine q01 ?_ | refine q02 ?_ | refine q05 ?_ | refine q11 ?_ | refine q12 ?_ | refine q14 ?_ | refine q17 ?_) | (with_reducible refine At.fn_ret (by simp -dsimp [hlki, hw, hy, hs]; exact rfl) ?_) | (refine CallE.empty (args' := [.one (.im (.raw (.int .i64 0))), .one (.im (.raw (.int .i64 (k : Int)))), .one (.im (.sl [])), .one (.ptr 3 0), .one (.ptr 1 0), .one (.ptr 5 0), .one (.ptr 6 0)]) rfl ?_; refine CallE.embed [3,1,5,4,6] (c5) ?_ ?_ ?_ ?_ ?_ ?_; (focus (simp [emb]; done)); (focus (simp; done)); (focus (simp; done)); (focus (simp; done)); (focus (refine emb_all ?_; simp [emb, embAll]; done)); try simp -dsimp [mergeO, emb]; try simp -dsimp [hlki, hw, hy, hs]) | (with_reducible refine DT_regionE [0,1,2,3,4,5,6,7,8,10,11,12,13,21,24,25,26,27,41,42,43,50] ?_; simp -dsimp [hlki, hw, hy, hs]) | (refine DT_cond rfl (fun h => ?_) (fun h => ?_) <;> (try simp only [nrm] at h) <;> (try exact Bool.noConfusion h))
            all_goals try simp -dsimp [hlki, hw, hy, hs]
            all_goals try clear hs
            all_goals simp [hR, h0]
      · obtain rfl : k = n.notes.length + 1 := by omega
        have hR : wE n s = [] := by rw [hsr, hn0]; rfl
        have hlki : ¬ (((n.notes.length + 1 : Nat) : Int)) < (n.notes.length : Int) + 1 := by omega
        have hs : True := trivial
        repeat' first | (with_reducible first | refine q01 ?_ | refine q03 ?_ | refine q06 ?_ | refine q11 ?_ | refine q16 ?_ | refine q17 ?_) | (with_reducible refine At.fn_ret (by simp -dsimp [hlki, hs]; exact rfl) ?_) | (with_reducible refine DT_regionE [0,1,2,3,4,5,6,7,8,10,11,12,13,21,24,25,26,27,41,42,43,50] ?_; simp -dsimp [hlki, hs]) | (refine DT_cond rfl (fun h => ?_) (fun h => ?_) <;> (try simp only [nrm] at h) <;> (try exact Bool.noConfusion h))
        all_goals try simp -dsimp [hlki, hs]
        all_goals try clear hs
        all_goals simp [hR, h0]
  · have hE : wE n s = [] := by unfold wE; rw [if_neg h0]
    rw [show askedR n s 1 = .one (.im (.raw (.pointer none))) by unfold askedR; rw [if_neg h0]] at c1
    simp only [isv, iv] at c1
    have hs : True := trivial
    repeat' first | (with_reducible first | refine q01 ?_ | refine q02 ?_ | refine q11 ?_ | refine q17 ?_) | (with_reducible refine At.fn_ret (by simp -dsimp [h0, hs]; exact rfl) ?_) | (refine CallE.pure (c1) ?_; try simp -dsimp [h0, hs]) | (with_reducible refine DT_regionE [0,1,2,3,4,5,6,7,8,10,11,12,13,21,24,25,26,27,41,42,43,50] ?_; simp -dsimp [h0, hs]) | (refine DT_cond rfl (fun h => ?_) (fun h => ?_) <;> (try simp only [nrm] at h) <;> (try exact Bool.noConfusion h))
    all_goals try simp -dsimp [h0, hs]
    all_goals try clear hs
    all_goals simp [h0, hE]
end Go.Proofs
