/- Part 16 of the proof whose last text closes the card: laws and walks that hold without conditions beyond those that each theorem names. -/
import Derived.Test.YtmonmfpdckdoiaaDoorD15
set_option linter.all false
set_option linter.deprecated false
namespace Go.Proofs
open Go Go.Ab
def bothB (n : Notes) (s w : List Int) (a b : Nat) : Bool := (marksP n.notes).any fun m => frcAt n s w m a && frcAt n s w m b
def clOk (n : Notes) (s w : List Int) (a b : Nat) : Bool := decide (a < b) && bothB n s w a b && (match n.notes[a]?, n.notes[b]? with
  | some x, some y => decide (x.drawing ≠ 0) && decide (x.drawing = y.drawing) && decide (y.letter < x.letter)
  | _, _ => false)
def clRow (n : Notes) (s w : List Int) (a k : Nat) : List (Int × Int) := ((List.range k).filter fun b => clOk n s w a b).map fun b => (numAt n.notes a, numAt n.notes b)
def clTo (n : Notes) (s w : List Int) (k : Nat) : List (Int × Int) := (List.range k).flatMap fun a => clRow n s w a n.notes.length
def clashL (n : Notes) (s w : List Int) : List (Int × Int) := clTo n s w n.notes.length
theorem clTo_succ (n : Notes) (s w : List Int) (k : Nat) : clTo n s w (k + 1) = clTo n s w k ++ clRow n s w k n.notes.length := by
  simp [clTo, List.range_succ, List.flatMap_append]
theorem clRow_succ (n : Notes) (s w : List Int) (a k : Nat) : clRow n s w a (k + 1) = clRow n s w a k ++ (if clOk n s w a k = true then [(numAt n.notes a, numAt n.notes k)] else []) := by
  unfold clRow
  rw [List.range_succ, List.filter_append, List.map_append]
  congr 1
  by_cases h : clOk n s w a k = true <;> simp [h]
theorem clRow_low (n : Notes) (s w : List Int) (a : Nat) : ∀ k, k ≤ a + 1 → clRow n s w a k = []
  | 0, _ => by simp [clRow]
  | k + 1, h => by
    rw [clRow_succ, clRow_low n s w a k (by omega)]
    have : clOk n s w a k = false := by unfold clOk; rw [decide_eq_false (by omega)]; rfl
    rw [this]; simp
theorem clRow_len (n : Notes) (s w : List Int) (a k : Nat) : (clRow n s w a k).length ≤ k := by
  unfold clRow
  rw [List.length_map]
  refine Nat.le_trans (List.length_filter_le _ _) ?_
  simp
theorem clTo_len (n : Notes) (s w : List Int) : ∀ k, (clTo n s w k).length ≤ k * n.notes.length
  | 0 => by simp [clTo]
  | k + 1 => by
    have h1 := clTo_len n s w k
    have h2 := clRow_len n s w k n.notes.length
    rw [clTo_succ, List.length_append, Nat.succ_mul]; omega
/-- What the program's map holds at a place of its three loops. -/
def inPairs (n : Notes) (s w : List Int) (M : List Int) (m : Int) (i k : Nat) (a b : Nat) : Prop := a < b ∧ b < n.notes.length ∧ ((∃ m' ∈ M, frcAt n s w m' a = true ∧ frcAt n s w m' b = true) ∨ ((b < i ∨ b = i ∧ a < k) ∧ frcAt n s w m a = true ∧ frcAt n s w m b = true))
def Bspec (n : Notes) (s w : List Int) (M : List Int) (m : Int) (i k : Nat) (B : List (Int × Int)) : Prop := ∀ a b : Nat, ((a : Int), (b : Int)) ∈ B ↔ inPairs n s w M m i k a b
theorem Bspec.start (n : Notes) (s w : List Int) (m : Int) : Bspec n s w [] m 0 0 [] := fun a b => by
  simp [inPairs]
theorem Bspec.mark {n : Notes} {s w : List Int} {M : List Int} {m m' : Int} {B : List (Int × Int)} (h : Bspec n s w M m n.notes.length 0 B) : Bspec n s w (M ++ [m]) m' 0 0 B := fun a b => by
  rw [h a b]
  simp only [inPairs, List.mem_append, List.mem_singleton]
  constructor
  · rintro ⟨h1, h2, h3 | ⟨h3, h4⟩⟩
    · obtain ⟨x, hx, h⟩ := h3
      exact ⟨h1, h2, .inl ⟨x, .inl hx, h⟩⟩
    · exact ⟨h1, h2, .inl ⟨m, .inr rfl, h4⟩⟩
  · rintro ⟨h1, h2, h3 | ⟨h3, h4⟩⟩
    · obtain ⟨x, hx | rfl, hh⟩ := h3
      · exact ⟨h1, h2, .inl ⟨x, hx, hh⟩⟩
      · exact ⟨h1, h2, .inr ⟨.inl h2, hh⟩⟩
    · omega
theorem Bspec.row {n : Notes} {s w : List Int} {M : List Int} {m : Int} {i : Nat} {B : List (Int × Int)} (h : Bspec n s w M m i i B) : Bspec n s w M m (i + 1) 0 B := fun a b => by
  rw [h a b]
  simp only [inPairs]
  refine and_congr_right fun h1 => and_congr_right fun h2 => or_congr_right (and_congr_left fun _ => ?_)
  omega
theorem Bspec.skip {n : Notes} {s w : List Int} {M : List Int} {m : Int} {i k : Nat} {B : List (Int × Int)} (h : Bspec n s w M m i k B) (hf : ¬ (frcAt n s w m i = true ∧ frcAt n s w m k = true)) : Bspec n s w M m i (k + 1) B := fun a b => by
  rw [h a b]
  simp only [inPairs]
  refine and_congr_right fun h1 => and_congr_right fun h2 => or_congr_right ⟨fun h3 => ⟨by omega, h3.2⟩, fun h3 => ⟨?_, h3.2⟩⟩
  rcases h3.1 with h4 | ⟨h4, h5⟩
  · exact .inl h4
  · by_cases e : a = k
    · subst e; subst h4; exact absurd ⟨h3.2.2, h3.2.1⟩ hf
    · exact .inr ⟨h4, by omega⟩
theorem Bspec.put {n : Notes} {s w : List Int} {M : List Int} {m : Int} {i k : Nat} {B : List (Int × Int)} (h : Bspec n s w M m i k B) (hki : k < i) (hi : i < n.notes.length) (hf : frcAt n s w m i = true ∧ frcAt n s w m k = true) : Bspec n s w M m i (k + 1) (pput ((k : Int), (i : Int)) B) := fun a b => by
  rw [mem_pput, h a b]
  simp only [inPairs, Prod.mk.injEq]
  constructor
  · rintro (⟨h1, h2, h3⟩ | ⟨h1, h2⟩)
    · exact ⟨h1, h2, h3.imp id fun h3 => ⟨by omega, h3.2⟩⟩
    · obtain rfl : a = k := by omega
      obtain rfl : b = i := by omega
      exact ⟨hki, hi, .inr ⟨.inr ⟨rfl, by omega⟩, hf.2, hf.1⟩⟩
  · rintro ⟨h1, h2, h3 | ⟨h3, h4⟩⟩
    · exact .inl ⟨h1, h2, .inl h3⟩
    · by_cases e : b = i ∧ a = k
      · obtain ⟨rfl, rfl⟩ := e; exact .inr ⟨rfl, rfl⟩
      · exact .inl ⟨h1, h2, .inr ⟨by omega, h4⟩⟩
theorem Bspec.both {n : Notes} {s w : List Int} {m : Int} {B : List (Int × Int)} (h : Bspec n s w (marksP n.notes) m 0 0 B) {a b : Nat} (hb : b < n.notes.length) : decide (((a : Int), (b : Int)) ∈ B) = (decide (a < b) && bothB n s w a b) := by
  rw [Bool.eq_iff_iff]
  simp only [decide_eq_true_eq, h a b, inPairs, Bool.and_eq_true, bothB, List.any_eq_true]
  constructor
  · rintro ⟨h1, _, h3 | h3⟩
    · exact ⟨h1, h3⟩
    · omega
  · rintro ⟨h1, h3⟩
    exact ⟨h1, hb, .inl h3⟩
end Go.Proofs
namespace Go.Proofs
open Go Go.Ab
set_option linter.unusedSimpArgs false
variable {G : Nat → Option (List IC)}
def markR (x : Note) : List Int := x.frm :: (if x.to < 999 then [x.to + 1] else [])
def marksR (l : List Note) : List Int := 1 :: l.flatMap markR
theorem marksR_succ {l : List Note} {k : Nat} (h : k < l.length) : marksR (l.take (k + 1)) = marksR (l.take k) ++ markR l[k] := by
  unfold marksR
  rw [List.take_succ_eq_append_getElem h, List.flatMap_append]; simp
theorem marksR_len (l : List Note) : (marksR l).length ≤ 2 * l.length + 1 := by
  unfold marksR
  have : ∀ l : List Note, (l.flatMap markR).length ≤ 2 * l.length := fun l => by
    induction l with
    | nil => simp
    | cons a r ih =>
      have ha : (markR a).length ≤ 2 := by unfold markR; split <;> simp
      rw [List.flatMap_cons, List.length_append, List.length_cons]; omega
  have := this l
  rw [List.length_cons]; omega
theorem marksR_mem {n : Notes} (hok : allOk n) {m : Int} : m ∈ marksR n.notes ↔ m ∈ marksP n.notes := by
  rw [marks_mem]
  simp only [marksR, List.mem_cons, List.mem_flatMap, markR]
  constructor
  · rintro (rfl | ⟨x, hx, h⟩)
    · exact ⟨.inl rfl, by omega⟩
    · have hk := nk3_of hok hx
      rcases h with rfl | h
      · exact ⟨.inr ⟨x, hx, .inl rfl⟩, by omega⟩
      · split at h
        · simp at h; exact ⟨.inr ⟨x, hx, .inr h⟩, by omega⟩
        · simp at h
  · rintro ⟨rfl | ⟨x, hx, h⟩, h9⟩
    · exact .inl rfl
    · refine .inr ⟨x, hx, ?_⟩
      rcases h with rfl | rfl
      · exact .inl rfl
      · rw [if_pos (by omega)]; exact .inr (by simp)
set_option maxHeartbeats 1000000 in
theorem marks3_c (n : Notes) (hl : n.notes.length < 100) (hto : ∀ x ∈ n.notes, 1 ≤ x.to ∧ x.to ≤ 999) (objs : List DObj) : DCall Tryd.prog G 107 [notesv n] objs (fun rr objs' => rr = isv (marksR n.notes) ∧ objs' = objs) := by
  refine DCall.frame ?_ (by simp) (by simp) objs
  refine DCall_intro Tryd.func107 rfl Tryd.ntmps107 (by simp) rfl ?_
  try simp only [notesv]
  have hs : True := trivial
  repeat' first | (with_reducible first | refine q01 ?_ | refine q11 ?_ | refine q12 ?_) | (with_reducible refine DT_regionE [0, 1, 2, 3, 4, 10, 28] ?_; simp -dsimp [hs])
  all_goals try simp -dsimp [hs]
  all_goals try clear hs
  refine DT_loop (ι := { p : Nat × Nat // p.1 ≤ n.notes.length }) (fun p => ⟨40, [(1, .one (.ptr 0 0)), (3, .one (.vec 2 p.1.2 0 (marksR (n.notes.take p.1.1)).length)), (4, iv (p.1.1 : Int))], [.row ((encNotes n).map .im), .vec 1 [] 0 true, .vec 1 (ims ((marksR (n.notes.take p.1.1)).map encI)) p.1.2 false]⟩) (fun p => n.notes.length - p.1.1) ⟨(0, 0), by simp⟩ (Weak.of_keep [1,3,4] (by simp [marksR])) ?_
  rintro ⟨⟨k, g⟩, hk⟩
  simp only at hk
  simp only [iv]
  have hrl := marksR_len (n.notes.take k)
  rw [List.length_take] at hrl
  by_cases hlt : k < n.notes.length
  · have hw : IntKind.i64.wrap ((k : Int) + 1) = ((k + 1 : Nat) : Int) := i64w (by omega) (by omega)
    have hst := marksR_succ hlt
    have hxt := hto n.notes[k] (List.getElem_mem hlt)
    generalize hx : n.notes[k] = x at *
    have hwt : IntKind.i64.wrap (x.to + 1) = x.to + 1 := i64w (by omega) (by omega)
    generalize marksR (n.notes.take k) = L at *
    have htL : ∀ v : List DC, List.take (L.length + 1) (ims (L.map encI) ++ [v]) = ims (L.map encI) ++ [v] := fun v => List.take_of_length_le (by simp [ims_length])
    by_cases h9 : x.to < 999
    · rw [markR, if_pos h9] at hst
      have hs : True := trivial
      repeat' first | (with_reducible first | refine q01 ?_ | refine q04 ?_ | refine q11 ?_ | refine q12 ?_ | refine q14 ?_ | refine And.intro (by omega) ?_) | (with_reducible refine DT_regionE [0, 1, 2, 3, 4, 10, 28] ?_; simp -dsimp [hx, hlt, hw, hwt, h9, htL, hs]) | (refine DT_cond rfl (fun h => ?_) (fun h => ?_) <;> (try simp only [nrm] at h) <;> (try exact Bool.noConfusion h))
      all_goals try simp -dsimp [hx, hlt, hw, hwt, h9, htL, hs]
      all_goals try clear hs
      all_goals exact At.round ⟨(k + 1, g + 1 + 1), by simp only; omega⟩ (by simp only; omega) (Weak.of_drop [1,3,4] 3 (by simp) (by simp) (by simp [hst]))
    · rw [markR, if_neg h9] at hst
      have hs : True := trivial
      repeat' first | (with_reducible first | refine q01 ?_ | refine q04 ?_ | refine q11 ?_ | refine q12 ?_ | refine q14 ?_ | refine And.intro (by omega) ?_) | (with_reducible refine DT_regionE [0, 1, 2, 3, 4, 10, 28] ?_; simp -dsimp [hx, hlt, hw, hwt, h9, htL, hs]) | (refine DT_cond rfl (fun h => ?_) (fun h => ?_) <;> (try simp only [nrm] at h) <;> (try exact Bool.noConfusion h))
      all_goals try simp -dsimp [hx, hlt, hw, hwt, h9, htL, hs]
      all_goals try clear hs
      all_goals exact At.round ⟨(k + 1, g + 1), by simp only; omega⟩ (by simp only; omega) (Weak.of_drop [1,3,4] 3 (by simp) (by simp) (by simp [hst]))
  · obtain rfl : k = n.notes.length := by omega
    rw [List.take_length]
    have hs : True := trivial
    repeat' first | (with_reducible first | refine q01 ?_ | refine q03 ?_ | refine q06 ?_ | refine q11 ?_ | refine q16 ?_ | refine q17 ?_) | (with_reducible refine At.fn_ret (by simp -dsimp [hlt, hs]; exact rfl) ?_) | (with_reducible refine DT_regionE [0, 1, 2, 3, 4, 10, 28] ?_; simp -dsimp [hlt, hs]) | (refine DT_cond rfl (fun h => ?_) (fun h => ?_) <;> (try simp only [nrm] at h) <;> (try exact Bool.noConfusion h))
    all_goals try simp -dsimp [hlt, hs]
    all_goals try clear hs
    all_goals simp
end Go.Proofs
namespace Go.Proofs
open Go Go.Ab
set_option linter.unusedSimpArgs false
variable {G : Nat → Option (List IC)}
set_option maxHeartbeats 2000000 in
theorem compact_c (l : List Int) (g : Nat) (hl : l.length < 1000) : DCall Tryd.prog G 104 [.one (.vec 0 g 0 l.length)] [.vec 1 (ims (l.map encI)) g false] (fun d o => ∃ S : List Int, (S.length = l.length ∧ S.take (dedupI l).length = dedupI l) ∧ d = .one (.vec 0 g 0 (dedupI l).length) ∧ o = [.vec 1 (ims (S.map encI)) g false]) := by
  refine DCall.drop ?_
  refine DCall_intro Tryd.func104 rfl Tryd.ntmps104 (by simp) rfl ?_
  by_cases h2 : l.length < 2
  · have hli : (l.length : Int) < 2 := by omega
    have hs : True := trivial
    repeat' first | (with_reducible first | refine q01 ?_ | refine q02 ?_ | refine q11 ?_ | refine q17 ?_) | (with_reducible refine At.fn_ret (by simp -dsimp [hli, hs]; exact rfl) ?_) | (with_reducible refine DT_regionE [0, 2, 3, 4, 5, 8, 13, 25, 32, 44] ?_; simp -dsimp [hli, hs]) | (refine DT_cond rfl (fun h => ?_) (fun h => ?_) <;> (try simp only [nrm] at h) <;> (try exact Bool.noConfusion h))
    all_goals try simp -dsimp [hli, hs]
    all_goals try clear hs
    have hd : dedupI l = l := by
      match l, h2 with
      | [], _ => rfl
      | [a], _ => rfl
    exact ⟨l, ⟨rfl, by rw [hd, List.take_length]⟩, by rw [hd], rfl⟩
  · have hli : ¬ (l.length : Int) < 2 := by omega
    have hs : True := trivial
    repeat' first | (with_reducible first | refine q01 ?_ | refine q11 ?_ | refine q12 ?_ | refine q14 ?_) | (with_reducible refine DT_regionE [0, 2, 3, 4, 5, 8, 13, 25, 32, 44] ?_; simp -dsimp [hli, hs]) | (refine DT_cond rfl (fun h => ?_) (fun h => ?_) <;> (try simp only [nrm] at h) <;> (try exact Bool.noConfusion h))
    all_goals try simp -dsimp [hli, hs]
    all_goals try clear hs
    refine DT_loop (ι := { k : Nat // 1 ≤ k ∧ k ≤ l.length ∧ dedupI (l.take k) = l.take k }) (fun p => ⟨61, [(0, .one (.vec 0 g 0 l.length)), (3, iv (p.1 : Int))], [.vec 1 (ims (l.map encI)) g false]⟩) (fun p => l.length - p.1) ⟨1, by omega, by omega, by cases l with | nil => rfl | cons a r => simp [dedupI]⟩ (Weak.of_drop [0,3] 1 (by simp) (by simp) (by simp)) ?_
    rintro ⟨k, hk1, hk, hdk⟩
    simp only [iv]
    by_cases hlt : k < l.length
    · have hw : IntKind.i64.wrap ((k : Int) + 1) = ((k + 1 : Nat) : Int) := i64w (by omega) (by omega)
      obtain ⟨j, rfl⟩ : ∃ j, k = j + 1 := ⟨k - 1, by omega⟩
      have hj : j < l.length := by omega
      have hst := dedup_step hlt
      rw [hdk] at hst
      have hwj : IntKind.i64.wrap (((j + 1 : Nat) : Int) - 1) = (j : Int) := by rw [i64w (by omega) (by omega)]; omega
      have hwj2 : IntKind.i64.wrap (j : Int) = (j : Int) := i64w (by omega) (by omega)
      have hp0 : (0 : Int) ≤ (j : Int) + 1 := by omega
      have hp1 : (j : Int) + 1 ≤ l.length := by omega
      have hp2 : (j : Int) + 1 < l.length := by omega
      by_cases he : l[j] = l[j + 1]
      · have he' : l[j + 1] = l[j] := he.symm
        rw [if_pos he] at hst
        have hs : True := trivial
        repeat' first | (with_reducible first | refine q01 ?_ | refine q11 ?_ | refine q12 ?_ | refine q14 ?_) | (refine DT_regionM (id := 6) (nt := 61) 10 [0, 2, 3, 4, 5, 8, 13, 25, 32, 44] mixed rfl (by kernel_rfl) ?_; simp -dsimp [hlt, hj, hw, hwj, hwj2, hp0, hp1, hp2, he', hs]) | (with_reducible refine DT_regionE [0, 2, 3, 4, 5, 8, 13, 25, 32, 44] ?_; simp -dsimp [hlt, hj, hw, hwj, hwj2, hp0, hp1, hp2, he', hs]) | (refine DT_cond rfl (fun h => ?_) (fun h => ?_) <;> (try simp only [nrm] at h) <;> (try exact Bool.noConfusion h))
        all_goals try simp -dsimp [hlt, hj, hw, hwj, hwj2, hp0, hp1, hp2, he', hs]
        all_goals try clear hs
        refine DT_loop (ι := { p : Nat × Nat × List Int // 1 ≤ p.1 ∧ j + 1 + p.1 ≤ l.length ∧ p.2.1 ≤ j + p.1 ∧ p.2.2.length = l.length ∧ p.2.2.take p.2.1 = dedupI (l.take (j + 1 + p.1)) ∧ p.2.2.drop (j + p.1) = l.drop (j + p.1) }) (fun p => ⟨61, [(0, .one (.vec 0 g 0 l.length)), (3, iv (p.1.2.1 : Int)), (4, .one (.vec 0 g (j + 1) (l.length - (j + 1)))), (5, iv (p.1.1 : Int))], [.vec 1 (ims (p.1.2.2.map encI)) g false]⟩) (fun p => l.length - p.1.1) ⟨(1, j + 1, l), by simp only; omega, by simp only; omega, by simp only; omega, rfl, hst.symm, rfl⟩ (Weak.of_keep [0,3,4,5] (by simp)) ?_
        rintro ⟨⟨q, w, S⟩, hq1, hqN, hwq, hSl, hSt, hSd⟩
        simp only at hq1 hqN hwq hSl hSt hSd
        simp only [iv]
        by_cases hlq : j + 1 + q < l.length
        · have hq' : q < l.length - (j + 1) := by omega
          have hq1' : q - 1 < l.length - (j + 1) := by omega
          have hqw : IntKind.i64.wrap ((q : Int) + 1) = ((q + 1 : Nat) : Int) := i64w (by omega) (by omega)
          have hww : IntKind.i64.wrap ((w : Int) + 1) = ((w + 1 : Nat) : Int) := i64w (by omega) (by omega)
          have hqm : IntKind.i64.wrap ((q : Int) - 1) = ((q - 1 : Nat) : Int) := by rw [i64w (by omega) (by omega)]; omega
          have hs1 : j + 1 + q < S.length := by omega
          have hs0 : j + 1 + (q - 1) < S.length := by omega
          have hwl : w < l.length := by omega
          have hds : dedupI (l.take (j + 1 + (q + 1))) = if l[j + q] = l[j + 1 + q] then dedupI (l.take (j + 1 + q)) else dedupI (l.take (j + 1 + q)) ++ [l[j + 1 + q]] := by
            have := dedup_step (l := l) (k := j + q) (by omega)
            simp only [show j + q + 1 = j + 1 + q by omega, show j + q + 2 = j + 1 + (q + 1) by omega] at this
            exact this
          rw [← hSt] at hds
          have e1 : S[j + 1 + q] = l[j + 1 + q] := by
            have := congrArg (fun L : List Int => L[1]?) hSd
            simp only [List.getElem?_drop] at this
            rw [show j + q + 1 = j + 1 + q by omega, List.getElem?_eq_getElem hs1, List.getElem?_eq_getElem hlq] at this
            exact Option.some.inj this
          have e0 : S[j + 1 + (q - 1)] = l[j + q] := by
            have := congrArg (fun L : List Int => L[0]?) hSd
            simp only [List.getElem?_drop, Nat.add_zero] at this
            rw [List.getElem?_eq_getElem (show j + q < S.length by omega), List.getElem?_eq_getElem (show j + q < l.length by omega)] at this
            have e := Option.some.inj this
            rw [← e]; congr 1; omega
          have hdr : S.drop (j + (q + 1)) = l.drop (j + (q + 1)) := by
            have := congrArg (List.drop 1) hSd
            rw [List.drop_drop, List.drop_drop] at this
            exact this
          have hset := fun v : Int => set_take (v := v) (show w < S.length by omega)
          have hdset : ∀ v : Int, (S.set w v).drop (j + (q + 1)) = l.drop (j + (q + 1)) := fun v => by
            rw [List.drop_set_of_lt (by omega)]; exact hdr
          generalize l[j + q] = u at *
          generalize l[j + 1 + q] = v at *
          have e0' : S[j + 1 + (q - 1)]? = some u := by rw [List.getElem?_eq_getElem hs0, e0]
          have e1' : S[j + 1 + q]? = some v := by rw [List.getElem?_eq_getElem hs1, e1]
          by_cases huv : u = v
          · have hvu : v = u := huv.symm
            rw [if_pos huv] at hds
            have hs : True := trivial
            repeat' first | (with_reducible first | refine q01 ?_ | refine q04 ?_ | refine q11 ?_ | refine q12 ?_ | refine q14 ?_) | (refine DT_regionM (id := 11) (nt := 61) 10 [0, 2, 3, 4, 5, 8, 13, 25, 32, 44] mixed rfl (by kernel_rfl) ?_; simp -dsimp [hq', hq1', hSl, hlq, hqw, hww, hqm, hs1, hs0, hwl, e1, e0, e0', e1', hvu, hs]) | (with_reducible refine DT_regionE [0, 2, 3, 4, 5, 8, 13, 25, 32, 44] ?_; simp -dsimp [hq', hq1', hSl, hlq, hqw, hww, hqm, hs1, hs0, hwl, e1, e0, e0', e1', hvu, hs]) | (refine DT_cond rfl (fun h => ?_) (fun h => ?_) <;> (try simp only [nrm] at h) <;> (try exact Bool.noConfusion h))
            all_goals try simp -dsimp [hq', hq1', hSl, hlq, hqw, hww, hqm, hs1, hs0, hwl, e1, e0, e0', e1', hvu, hs]
            all_goals try clear hs
            all_goals exact At.round ⟨(q + 1, w, S), by simp only; omega, by simp only; omega, by simp only; omega, hSl, hds.symm, hdr⟩ (by simp only; omega) (Weak.of_keep [0,3,4,5] (by simp))
          · have hvu : ¬ v = u := fun h => huv h.symm
            rw [if_neg huv, ← hset v] at hds
            have hs : True := trivial
            repeat' first | (with_reducible first | refine q01 ?_ | refine q04 ?_ | refine q11 ?_ | refine q12 ?_ | refine q14 ?_) | (refine DT_regionM (id := 11) (nt := 61) 10 [0, 2, 3, 4, 5, 8, 13, 25, 32, 44] mixed rfl (by kernel_rfl) ?_; simp -dsimp [hq', hq1', hSl, hlq, hqw, hww, hqm, hs1, hs0, hwl, e1, e0, e0', e1', hvu, hs]) | (with_reducible refine DT_regionE [0, 2, 3, 4, 5, 8, 13, 25, 32, 44] ?_; simp -dsimp [hq', hq1', hSl, hlq, hqw, hww, hqm, hs1, hs0, hwl, e1, e0, e0', e1', hvu, hs]) | (refine DT_cond rfl (fun h => ?_) (fun h => ?_) <;> (try simp only [nrm] at h) <;> (try exact Bool.noConfusion h))
            all_goals try simp -dsimp [hq', hq1', hSl, hlq, hqw, hww, hqm, hs1, hs0, hwl, e1, e0, e0', e1', hvu, hs]
            all_goals try clear hs
            all_goals exact At.round ⟨(q + 1, w + 1, S.set w v), by simp only; omega, by simp only; omega, by simp only; omega, by simpa using hSl, hds.symm, hdset v⟩ (by simp only; omega) (Weak.of_keep [0,3,4,5] (by simp))
        · have hq' : ¬ q < l.length - (j + 1) := by omega
          have hw0 : w ≤ l.length := by omega
          have hs : True := trivial
          repeat' first | (with_reducible first | refine q01 ?_ | refine q02 ?_ | refine q03 ?_ | refine q05 ?_ | refine q06 ?_ | refine q11 ?_ | refine q16 ?_ | refine q17 ?_) | (with_reducible refine At.fn_ret (by simp -dsimp [hq', hw0, hSl, hs]; exact rfl) ?_) | (with_reducible refine DT_regionE [0, 2, 3, 4, 5, 8, 13, 25, 32, 44] ?_; simp -dsimp [hq', hw0, hSl, hs]) | (refine DT_cond rfl (fun h => ?_) (fun h => ?_) <;> (try simp only [nrm] at h) <;> (try exact Bool.noConfusion h))
          all_goals try simp -dsimp [hq', hw0, hSl, hs]
          all_goals try clear hs
          have hN : j + 1 + q = l.length := by omega
          rw [hN, List.take_length] at hSt
          have hwd : w = (dedupI l).length := by rw [← hSt]; simp; omega
          exact ⟨clrI S w (l.length - w), ⟨by rw [clrI_len (by omega)]; exact hSl, by rw [← hwd, ← hSt]; exact List.take_left' (by simp; omega)⟩, by rw [hwd], rfl⟩
      · have he' : ¬ l[j + 1] = l[j] := fun h => he h.symm
        rw [if_neg he] at hst
        have hs : True := trivial
        repeat' first | (with_reducible first | refine q01 ?_ | refine q04 ?_ | refine q11 ?_ | refine q12 ?_ | refine q14 ?_) | (refine DT_regionM (id := 6) (nt := 61) 10 [0, 2, 3, 4, 5, 8, 13, 25, 32, 44] mixed rfl (by kernel_rfl) ?_; simp -dsimp [hlt, hj, hw, hwj, hwj2, hp0, hp1, hp2, he', hs]) | (with_reducible refine DT_regionE [0, 2, 3, 4, 5, 8, 13, 25, 32, 44] ?_; simp -dsimp [hlt, hj, hw, hwj, hwj2, hp0, hp1, hp2, he', hs]) | (refine DT_cond rfl (fun h => ?_) (fun h => ?_) <;> (try simp only [nrm] at h) <;> (try exact Bool.noConfusion h))
        all_goals try simp -dsimp [hlt, hj, hw, hwj, hwj2, hp0, hp1, hp2, he', hs]
        all_goals try clear hs
        exact At.round ⟨j + 2, by omega, by omega, by rw [hst, show j + 2 = j + 1 + 1 from rfl, List.take_succ_eq_append_getElem hlt]⟩ (by simp only; omega) (Weak.of_keep [0,3] (by simp; exact hw))
    · obtain rfl : k = l.length := by omega
      rw [List.take_length] at hdk
      have hs : True := trivial
      repeat' first | (with_reducible first | refine q01 ?_ | refine q03 ?_ | refine q06 ?_ | refine q11 ?_ | refine q16 ?_ | refine q17 ?_) | (with_reducible refine At.fn_ret (by simp -dsimp [hlt, hs]; exact rfl) ?_) | (with_reducible refine DT_regionE [0, 2, 3, 4, 5, 8, 13, 25, 32, 44] ?_; simp -dsimp [hlt, hs]) | (refine DT_cond rfl (fun h => ?_) (fun h => ?_) <;> (try simp only [nrm] at h) <;> (try exact Bool.noConfusion h))
      all_goals try simp -dsimp [hlt, hs]
      all_goals try clear hs
      exact ⟨l, ⟨rfl, by rw [hdk, List.take_length]⟩, by rw [hdk], rfl⟩
end Go.Proofs
namespace Go.Proofs
open Go Go.Ab
theorem fidx_case {p : Int → Bool} {l : List Int} : (fidx p l = -1 ∧ l.filter (fun x => !p x) = l) ∨ ∃ i : Nat, fidx p l = (i : Int) ∧ ∃ h : i < l.length, p l[i] = true ∧ (l.take i).filter (fun x => !p x) = l.take i := by
  unfold fidx
  split
  · rename_i i h
    rw [List.findIdx?_eq_some_iff_getElem] at h
    obtain ⟨hlt, hp, hno⟩ := h
    refine .inr ⟨i, rfl, hlt, hp, List.filter_eq_self.2 fun x hx => ?_⟩
    obtain ⟨j, hj, e⟩ := List.mem_take_iff_getElem.1 hx
    have := hno j (by omega)
    rw [e] at this; simpa using this
  · rename_i h
    rw [List.findIdx?_eq_none_iff] at h
    exact .inl ⟨rfl, List.filter_eq_self.2 fun x hx => by simp [h x hx]⟩
theorem ims_take (X : List (List IC)) (m : Nat) : (ims X).take m = ims (X.take m) := by simp [ims, List.map_take]
theorem filter_step {q : Int → Bool} {l : List Int} {j : Nat} (h : j < l.length) : (l.take (j + 1)).filter q = (l.take j).filter q ++ (if q l[j] = true then [l[j]] else []) := by
  rw [List.take_succ_eq_append_getElem h, List.filter_append]
  congr 1
  by_cases e : q l[j] = true <;> simp [e]
set_option linter.unusedSimpArgs false
variable {G : Nat → Option (List IC)}
theorem marks1_c (v : Int) (objs : List DObj) : DCall Tryd.prog G 106 [iv v] objs (fun rr objs' => rr = bv (decide (999 < v)) ∧ objs' = objs) := by
  refine DCall.frame ?_ (by simp) (by simp) objs
  refine DCall_intro Tryd.func106 rfl Tryd.ntmps106 (by simp) rfl ?_
  try simp only [iv]
  have hs : True := trivial
  repeat' first | (with_reducible first | refine q01 ?_ | refine q11 ?_ | refine q17 ?_) | (with_reducible refine At.fn_ret (by simp -dsimp [hs]; exact rfl) ?_) | (with_reducible refine DT_regionE [0, 2] ?_; simp -dsimp [hs])
  all_goals try simp -dsimp [hs]
  all_goals try clear hs
set_option maxHeartbeats 2000000 in
theorem delFunc_c (l : List Int) (m g : Nat) (hm : m ≤ l.length) (hl : l.length < 1000) : DCall Tryd.prog G 105 [.one (.vec 0 g 0 m), .one (.im (.fn (.func 106) []))] [.vec 1 (ims (l.map encI)) g false] (fun d o => ∃ S : List Int, (S.length = l.length ∧ S.take ((l.take m).filter fun x => decide (x ≤ 999)).length = (l.take m).filter fun x => decide (x ≤ 999)) ∧ d = .one (.vec 0 g 0 ((l.take m).filter fun x => decide (x ≤ 999)).length) ∧ o = [.vec 1 (ims (S.map encI)) g false]) := by
  refine DCall.drop ?_
  refine DCall_intro Tryd.func105 rfl Tryd.ntmps105 (by simp) rfl ?_
  have hq : (fun x : Int => !decide (999 < x)) = fun x => decide (x ≤ 999) := funext fun x => by rw [← decide_not, decide_eq_decide]; omega
  have htl : (l.take m).length = m := by simp; omega
  have c1 : ∀ objs, DCall Tryd.prog G 115 [.one (.im (.sl ((l.take m).map encI))), .one (.im (.fn (.func 106) []))] objs (fun d o => d = iv (fidx (fun x => decide (999 < x)) (l.take m)) ∧ o = objs) := fun objs =>
    DCall.fnArg2 (indexFunc_int (G := G) (l.take m) (fun x => decide (999 < x)) 106 [] objs (by simp) (fun x _ => marks1_c x objs) (by simp; omega))
  have hcase := fidx_case (p := fun x => decide (999 < x)) (l := l.take m)
  rw [hq] at hcase
  generalize fidx (fun x => decide (999 < x)) (l.take m) = z at *
  rcases hcase with ⟨rfl, hall⟩ | ⟨i, rfl, hi, hpi, hfi⟩
  · simp only [List.map_take] at c1
    have hs : True := trivial
    repeat' first | (with_reducible first | refine q01 ?_ | refine q02 ?_ | refine q11 ?_ | refine q17 ?_) | (with_reducible refine At.fn_ret (by simp -dsimp [hm, hs]; exact rfl) ?_) | (refine CallE.thaw c1 ?_ ?_ ?_; (focus (simp [hm, ims_take]; done)); (focus (simp; done)); try simp -dsimp [hm, hs]) | (with_reducible refine DT_regionE [0, 1, 4, 5, 6, 7, 12, 19, 29] ?_; simp -dsimp [hm, hs]) | (refine DT_cond rfl (fun h => ?_) (fun h => ?_) <;> (try simp only [nrm] at h) <;> (try exact Bool.noConfusion h))
    all_goals try simp -dsimp [hm, hs]
    all_goals try clear hs
    exact ⟨l, ⟨rfl, by rw [hall, htl]⟩, by rw [hall, htl], rfl⟩
  · simp only [List.map_take] at c1
    have him : i < m := by omega
    have hwi : IntKind.i64.wrap ((i : Int) + 1) = ((i + 1 : Nat) : Int) := i64w (by omega) (by omega)
    have hL0 : l.take i = ((l.take m).take (i + 1)).filter fun x => decide (x ≤ 999) := by
      rw [filter_step hi, hfi, if_neg (by simp at hpi ⊢; omega), List.append_nil, List.take_take, Nat.min_eq_left (by omega)]
    have hs : True := trivial
    repeat' first | (with_reducible first | refine q01 ?_ | refine q11 ?_ | refine q12 ?_ | refine q14 ?_) | (refine CallE.thaw c1 ?_ ?_ ?_; (focus (simp [hm, ims_take]; done)); (focus (simp; done)); try simp -dsimp [hm, hwi, hs]) | (with_reducible refine DT_regionE [0, 1, 4, 5, 6, 7, 12, 19, 29] ?_; simp -dsimp [hm, hwi, hs]) | (refine DT_cond rfl (fun h => ?_) (fun h => ?_) <;> (try simp only [nrm] at h) <;> (try exact Bool.noConfusion h))
    all_goals try simp -dsimp [hm, hwi, hs]
    all_goals try clear hs
    refine DT_loop (ι := { p : Nat × Nat × List Int // p.1 ≤ m ∧ p.2.1 + 1 ≤ p.1 ∧ p.2.2.length = l.length ∧ p.2.2.take p.2.1 = ((l.take m).take p.1).filter (fun x => decide (x ≤ 999)) ∧ p.2.2.drop p.1 = l.drop p.1 }) (fun p => ⟨42, [(0, .one (.vec 0 g 0 m)), (1, .one (.im (.fn (.func 106) []))), (5, iv (p.1.2.1 : Int)), (6, iv (p.1.1 : Int))], [.vec 1 (ims (p.1.2.2.map encI)) g false]⟩) (fun p => m - p.1.1) ⟨(i + 1, i, l), by simp only; omega, by simp only; omega, rfl, hL0, rfl⟩ (Weak.of_drop [0,1,5,6] 1 (by simp) (by simp) (by simp)) ?_
    clear c1 hL0 hfi hpi
    rintro ⟨⟨j, w, S⟩, hj, hwj, hSl, hSt, hSd⟩
    simp only at hj hwj hSl hSt hSd
    simp only [iv]
    by_cases hlt : j < m
    · have hw : IntKind.i64.wrap ((j : Int) + 1) = ((j + 1 : Nat) : Int) := i64w (by omega) (by omega)
      have hww : IntKind.i64.wrap ((w : Int) + 1) = ((w + 1 : Nat) : Int) := i64w (by omega) (by omega)
      have hjS : j < S.length := by omega
      have hjl : j < l.length := by omega
      have hwm : w < m := by omega
      have hwS : w < S.length := by omega
      have hfs := filter_step (q := fun x => decide (x ≤ 999)) (show j < (l.take m).length by omega)
      rw [← hSt, List.getElem_take] at hfs
      have e1 : S[j]? = l[j]? := by
        have := congrArg (fun L : List Int => L[0]?) hSd
        simpa only [List.getElem?_drop, Nat.add_zero] using this
      rw [List.getElem?_eq_getElem hjl] at e1
      have e2 : S[j] = l[j] := (List.getElem?_eq_some_iff.1 e1).2
      have hdr : S.drop (j + 1) = l.drop (j + 1) := by
        have := congrArg (List.drop 1) hSd
        rw [List.drop_drop, List.drop_drop] at this; exact this
      have hset := fun v : Int => set_take (v := v) hwS
      have hdset : ∀ v : Int, (S.set w v).drop (j + 1) = l.drop (j + 1) := fun v => by
        rw [List.drop_set_of_lt (by omega)]; exact hdr
      generalize l[j] = v at *
      have c2 := marks1_c (G := G) v
      by_cases hv : 999 < v
      · rw [decide_eq_true hv] at c2
        rw [if_neg (by simp; omega), List.append_nil] at hfs
        have hs : True := trivial
        repeat' first | (with_reducible first | refine q01 ?_ | refine q04 ?_ | refine q11 ?_ | refine q12 ?_ | refine q14 ?_) | (refine CallE.pure (c2) ?_; try simp -dsimp [hlt, hw, hjS, e1, e2, hs]) | (with_reducible refine DT_regionE [0, 1, 4, 5, 6, 7, 12, 19, 29] ?_; simp -dsimp [hlt, hw, hjS, e1, e2, hs]) | (refine DT_cond rfl (fun h => ?_) (fun h => ?_) <;> (try simp only [nrm] at h) <;> (try exact Bool.noConfusion h))
        all_goals try simp -dsimp [hlt, hw, hjS, e1, e2, hs]
        all_goals try clear hs
        all_goals exact At.round ⟨(j + 1, w, S), by simp only; omega, by simp only; omega, hSl, hfs.symm, hdr⟩ (by simp only; omega) (Weak.of_keep [0,1,5,6] (by simp))
      · rw [decide_eq_false hv] at c2
        rw [if_pos (by simp; omega), ← hset v] at hfs
        have hs : True := trivial
        repeat' first | (with_reducible first | refine q01 ?_ | refine q04 ?_ | refine q11 ?_ | refine q12 ?_ | refine q14 ?_) | (refine CallE.pure (c2) ?_; try simp -dsimp [hlt, hw, hww, hjS, e1, e2, hwm, hwS, hs]) | (with_reducible refine DT_regionE [0, 1, 4, 5, 6, 7, 12, 19, 29] ?_; simp -dsimp [hlt, hw, hww, hjS, e1, e2, hwm, hwS, hs]) | (refine DT_cond rfl (fun h => ?_) (fun h => ?_) <;> (try simp only [nrm] at h) <;> (try exact Bool.noConfusion h))
        all_goals try simp -dsimp [hlt, hw, hww, hjS, e1, e2, hwm, hwS, hs]
        all_goals try clear hs
        all_goals exact At.round ⟨(j + 1, w + 1, S.set w v), by simp only; omega, by simp only; omega, by simpa using hSl, hfs.symm, hdset v⟩ (by simp only; omega) (Weak.of_keep [0,1,5,6] (by simp))
    · obtain rfl : j = m := by omega
      rw [List.take_of_length_le (by omega : (l.take j).length ≤ j)] at hSt
      have hw0 : w ≤ j := by omega
      have hwd : w = ((l.take j).filter fun x => decide (x ≤ 999)).length := by rw [← hSt]; simp; omega
      have hs : True := trivial
      repeat' first | (with_reducible first | refine q01 ?_ | refine q03 ?_ | refine q06 ?_ | refine q11 ?_ | refine q16 ?_ | refine q17 ?_) | (with_reducible refine At.fn_ret (by simp -dsimp [hlt, hw0, hSl, hm, hs]; exact rfl) ?_) | (with_reducible refine DT_regionE [0, 1, 4, 5, 6, 7, 12, 19, 29] ?_; simp -dsimp [hlt, hw0, hSl, hm, hs]) | (refine DT_cond rfl (fun h => ?_) (fun h => ?_) <;> (try simp only [nrm] at h) <;> (try exact Bool.noConfusion h))
      all_goals try simp -dsimp [hlt, hw0, hSl, hm, hs]
      all_goals try clear hs
      all_goals exact ⟨clrI S w (j - w), ⟨by rw [clrI_len (by omega)]; exact hSl, by rw [← hwd, ← hSt]; exact List.take_left' (by simp; omega)⟩, by rw [hwd], rfl⟩
end Go.Proofs
namespace Go.Proofs
open Go Go.Ab
set_option linter.unusedSimpArgs false
variable {G : Nat → Option (List IC)}
theorem rawM_take {l : List Note} {k : Nat} (h : k < l.length) : rawM (l.take (k + 1)) = rawM (l.take k) ++ [l[k].frm, l[k].to + 1] := by
  unfold rawM
  rw [List.take_succ_eq_append_getElem h, List.flatMap_append]; simp
theorem rawM_len (l : List Note) : (rawM l).length = 2 * l.length + 1 := by
  unfold rawM
  have : ∀ l : List Note, (l.flatMap fun x => [x.frm, x.to + 1]).length = 2 * l.length := fun l => by
    induction l with
    | nil => rfl
    | cons a r ih => rw [List.flatMap_cons, List.length_append, ih, List.length_cons, List.length_cons, List.length_cons, List.length_nil]; omega
  rw [List.length_cons, this]
set_option maxHeartbeats 2000000 in
theorem marks_c (n : Notes) (hS : SortOk G) (hl : n.notes.length < 100) (hto : ∀ x ∈ n.notes, 1 ≤ x.to ∧ x.to ≤ 999) (objs : List DObj) : DCall Tryd.prog G 63 [.one (.im (fileI n))] objs (fun rr objs' => rr = isv (marksP n.notes) ∧ objs' = objs) := by
  refine DCall.frame ?_ (by simp) (by simp) objs
  refine DCall_intro Tryd.func63 rfl Tryd.ntmps63 (by simp) rfl ?_
  try simp only [iv]
  simp only [fileI]
  have hs : True := trivial
  repeat' first | (with_reducible first | refine q01 ?_ | refine q11 ?_ | refine q12 ?_) | (with_reducible refine DT_regionE [0, 2, 3, 5, 11, 12, 13, 14] ?_; simp -dsimp [hs])
  all_goals try simp -dsimp [hs]
  all_goals try clear hs
  refine DT_loop (ι := { p : Nat × Nat // p.1 ≤ n.notes.length }) (fun p => ⟨32, [(3, .one (.vec 1 p.1.2 0 (rawM (n.notes.take p.1.1)).length)), (11, .one (.im (.sl (n.notes.map encNote)))), (12, iv (n.notes.length : Int)), (13, iv (p.1.1 : Int))], [.vec 1 [] 0 true, .vec 1 (ims ((rawM (n.notes.take p.1.1)).map encI)) p.1.2 false]⟩) (fun p => n.notes.length - p.1.1) ⟨(0, 0), by simp⟩ (Weak.of_keep [3,11,12,13] (by simp [rawM])) ?_
  rintro ⟨⟨k, g⟩, hk⟩
  simp only at hk
  simp only [iv]
  have hrl := rawM_len (n.notes.take k)
  rw [List.length_take] at hrl
  by_cases hlt : k < n.notes.length
  · have hw : IntKind.i64.wrap ((k : Int) + 1) = ((k + 1 : Nat) : Int) := i64w (by omega) (by omega)
    have hst := rawM_take hlt
    have hxt := hto n.notes[k] (List.getElem_mem hlt)
    generalize hx : n.notes[k] = x at *
    have hwt : IntKind.i64.wrap (x.to + 1) = x.to + 1 := i64w (by omega) (by omega)
    generalize rawM (n.notes.take k) = L at *
    have hs : True := trivial
    repeat' first | (with_reducible first | refine q01 ?_ | refine q04 ?_ | refine q11 ?_ | refine q12 ?_ | refine q14 ?_ | refine And.intro (by omega) ?_) | (with_reducible refine DT_regionE [0, 2, 3, 5, 11, 12, 13, 14] ?_; simp -dsimp [hx, hlt, hw, hwt, hs]) | (refine DT_cond rfl (fun h => ?_) (fun h => ?_) <;> (try simp only [nrm] at h) <;> (try exact Bool.noConfusion h))
    all_goals try simp -dsimp [hx, hlt, hw, hwt, hs]
    all_goals try clear hs
    all_goals exact At.round ⟨(k + 1, g + 1), by simp only; omega⟩ (by simp only; omega) (Weak.of_drop [3,11,12,13] 2 (by simp) (by simp) (by simp [hst]))
  · obtain rfl : k = n.notes.length := by omega
    rw [List.take_length] at hrl ⊢
    have hE : marksP n.notes = (dedupI (isort (rawM n.notes))).filter fun m => decide (m ≤ 999) := rfl
    have c1 := hS (rawM n.notes) g 1 false (.inl rfl) (by omega)
    have hil := isort_len (rawM n.notes)
    have c2 := compact_c (G := G) (isort (rawM n.notes)) g (by omega)
    have hdl := dedupI_len (isort (rawM n.notes))
    rw [hil] at c2
    have hs : True := trivial
    repeat' first | (with_reducible first | refine q01 ?_ | refine q03 ?_ | refine q06 ?_ | refine q11 ?_ | refine q16 ?_ | refine q17 ?_) | (with_reducible refine At.fn_ret (by simp -dsimp [hlt, hs]; exact rfl) ?_) | (refine CallE.embed [1] (c1) ?_ ?_ ?_ ?_ ?_ ?_; (focus (simp [emb]; done)); (focus (simp; done)); (focus (simp; done)); (focus (simp; done)); (focus (refine emb_all ?_; simp [emb, embAll]; done)); try simp -dsimp [mergeO, emb, hlt, hs]) | (refine CallE.embed_ex [1] (c2) ?_ ?_ ?_ ?_ ?_ ?_; (focus (simp [emb]; done)); (focus (simp; done)); (focus (simp; done)); (focus (simp; done)); (focus (refine emb_all ?_; simp [emb, embAll]; done)); intro mma hmma; try simp -dsimp [mergeO, emb, hlt, hs]) | (refine CallE.embed_ex [1] (delFunc_c (G := G) mma (dedupI (isort (rawM n.notes))).length g (by omega) (by omega)) ?_ ?_ ?_ ?_ ?_ ?_; (focus (simp [emb]; done)); (focus (simp; done)); (focus (simp; done)); (focus (simp; done)); (focus (refine emb_all ?_; simp [emb, embAll]; done)); intro mm hmm; try simp -dsimp [mergeO, emb, hlt, hs]) | (with_reducible refine DT_regionE [0, 2, 3, 5, 11, 12, 13, 14] ?_; simp -dsimp [hlt, hs]) | (refine DT_cond rfl (fun h => ?_) (fun h => ?_) <;> (try simp only [nrm] at h) <;> (try exact Bool.noConfusion h))
    all_goals try simp -dsimp [hlt, hs]
    all_goals try clear hs
    obtain ⟨ha1, ha2⟩ := hmma
    obtain ⟨hb1, hb2⟩ := hmm
    rw [ha2, ← hE] at hb2 ⊢
    have hml : (marksP n.notes).length ≤ mm.length := by rw [← hb2]; simp; omega
    have htk : (ims (mm.map encI)).take (marksP n.notes).length = ims ((marksP n.notes).map encI) := by rw [ims_take, ← List.map_take, hb2]
    simp [hml, htk]
end Go.Proofs
namespace Go.Proofs
open Go Go.Ab
set_option linter.unusedSimpArgs false
variable {G : Nat → Option (List IC)}
set_option maxRecDepth 4000 in
set_option maxHeartbeats 8000000 in
theorem clash_c (n : Notes) (s w : List Int) (hS : SortOk G) (hok : allOk n) (hl : n.notes.length ≤ 16) (hsl : s.length < 1000) (hwl : w.length < 1000) (objs : List DObj) : DCall Tryd.prog G 67 [.one (.im (fileI n)), isv s, isv w] objs (fun rr objs' => rr = prv (clashL n s w) ∧ objs' = objs) := by
  refine DCall.frame ?_ (by simp) (by simp) objs
  refine DCall_intro Tryd.func67 rfl Tryd.ntmps67 (by simp) rfl ?_
  try simp only [isv, isv]
  have c1 := marks_c n hS (by omega) (fun x hx => by have := nk3_of hok hx; omega)
  have c2 := fun m => force_c (G := G) n s w m
  have hml := marks_len n.notes
  simp only [fileI] at c1 ⊢
  simp only [frcObjs, frcCaps, fileI, iv, isv, bv, rI, List.map_cons, List.map_nil, encMB] at c2
  have hs : True := trivial
  repeat' first | (with_reducible first | refine q01 ?_ | refine q11 ?_ | refine q12 ?_) | (refine CallE.pure (c1) ?_; try simp -dsimp [hs]) | (with_reducible refine DT_regionE [0, 1, 2, 6, 7, 9, 10, 11, 12, 13, 14, 15, 16, 17, 20, 21, 22, 23, 36, 37, 38, 40, 41, 42, 51, 63, 64, 65, 66, 74, 75, 76, 77, 104] ?_; simp -dsimp [hs])
  all_goals try simp -dsimp [hs]
  all_goals try clear hs
  generalize hMs : marksP n.notes = Ms at *
  refine DT_loop (ι := { p : Nat × List (Int × Int) // p.1 ≤ Ms.length ∧ ∀ m, Bspec n s w (Ms.take p.1) m 0 0 p.2 }) (fun p => ⟨116, [(0, .one (.im (.ip [.sl (n.reg.map encIssue), .sl (n.notes.map encNote), .sl ((nums n.reg).map encI), .sl ((isort (openL n.notes)).map encI)]))), (1, isv s), (2, isv w), (7, .one (.map 1)), (20, isv Ms), (21, iv (Ms.length : Int)), (22, iv (p.1.1 : Int))], [.vec 2 [] 0 true, .map [.int .i64, .int .i64] (encPS p.1.2)]⟩) (fun p => Ms.length - p.1.1) ⟨(0, []), by simp, fun m => Bspec.start n s w m⟩ (Weak.of_keep [0,1,2,7,20,21,22] (by simp [encPS])) ?_
  rintro ⟨⟨j, B⟩, hj, hB⟩
  simp only at hj hB
  simp only [iv, isv]
  by_cases hlt : j < Ms.length
  · have hw : IntKind.i64.wrap ((j : Int) + 1) = ((j + 1 : Nat) : Int) := i64w (by omega) (by omega)
    have htk : Ms.take (j + 1) = Ms.take j ++ [Ms[j]] := List.take_succ_eq_append_getElem hlt
    generalize hm : Ms[j] = m at *
    have c3 := c2 m
    have hs : True := trivial
    repeat' first | (with_reducible first | refine q01 ?_ | refine q11 ?_ | refine q12 ?_ | refine q14 ?_) | (refine CallE.embed [] (c3) ?_ ?_ ?_ ?_ ?_ ?_; (focus (simp [emb]; done)); (focus (simp; done)); (focus (simp; done)); (focus (simp; done)); (focus (refine emb_all ?_; simp [emb, embAll]; done)); try simp -dsimp [mergeO, emb, hm, hlt, hs]) | (with_reducible refine DT_regionE [0, 1, 2, 6, 7, 9, 10, 11, 12, 13, 14, 15, 16, 17, 20, 21, 22, 23, 36, 37, 38, 40, 41, 42, 51, 63, 64, 65, 66, 74, 75, 76, 77, 104] ?_; simp -dsimp [hm, hlt, hs]) | (refine DT_cond rfl (fun h => ?_) (fun h => ?_) <;> (try simp only [nrm] at h) <;> (try exact Bool.noConfusion h))
    all_goals try simp -dsimp [hm, hlt, hs]
    all_goals try clear hs
    refine DT_loop (ι := { p : Nat × List (Int × Int) × List (Int × Bool) // p.1 ≤ n.notes.length ∧ ConsM n s w m p.2.2 ∧ Bspec n s w (Ms.take j) m p.1 0 p.2.1 }) (fun p => ⟨116, [(0, .one (.im (.ip [.sl (n.reg.map encIssue), .sl (n.notes.map encNote), .sl ((nums n.reg).map encI), .sl ((isort (openL n.notes)).map encI)]))), (1, isv s), (2, isv w), (7, .one (.map 1)), (10, .one (.fn (.func 98) [.ptr 7 0, .ptr 2 0, .ptr 3 0, .ptr 4 0, .ptr 5 0, .ptr 8 0])), (20, isv Ms), (21, iv (Ms.length : Int)), (22, iv (j : Int)), (36, iv (n.notes.length : Int)), (37, iv (p.1.1 : Int))], [.vec 2 [] 0 true, .map [.int .i64, .int .i64] (encPS p.1.2.1)] ++ [.row [.im (.ip [.sl (n.reg.map encIssue), .sl (n.notes.map encNote), .sl ((nums n.reg).map encI), .sl ((isort (openL n.notes)).map encI)])], .row [.im (.sl (s.map encI))], .row [.im (.sl (w.map encI))], .row [.im (rI m)], .map [.int .i64] (encMB p.1.2.2), .row [.map 6], .row [.fn (.func 98) [.ptr 7 0, .ptr 2 0, .ptr 3 0, .ptr 4 0, .ptr 5 0, .ptr 8 0]]]⟩) (fun p => n.notes.length - p.1.1) ⟨(0, B, []), by simp, ConsM.nil _ _ _ _, hB m⟩ (Weak.of_keep [0,1,2,7,10,20,21,22,36,37] (by simp [encMB])) ?_
    rintro ⟨⟨i, B2, M⟩, hi, hM, hB2⟩
    simp only at hi hM hB2
    simp only [iv, isv]
    by_cases hli : i < n.notes.length
    · have hwi : IntKind.i64.wrap ((i : Int) + 1) = ((i + 1 : Nat) : Int) := i64w (by omega) (by omega)
      have hs : True := trivial
      repeat' first | (with_reducible first | refine q01 ?_ | refine q11 ?_ | refine q12 ?_ | refine q14 ?_) | (with_reducible refine DT_regionE [0, 1, 2, 6, 7, 9, 10, 11, 12, 13, 14, 15, 16, 17, 20, 21, 22, 23, 36, 37, 38, 40, 41, 42, 51, 63, 64, 65, 66, 74, 75, 76, 77, 104] ?_; simp -dsimp [hli, hs]) | (refine DT_cond rfl (fun h => ?_) (fun h => ?_) <;> (try simp only [nrm] at h) <;> (try exact Bool.noConfusion h))
      all_goals try simp -dsimp [hli, hs]
      all_goals try clear hs
      refine DT_loop (ι := { p : Nat × List (Int × Int) × List (Int × Bool) // p.1 ≤ i ∧ ConsM n s w m p.2.2 ∧ Bspec n s w (Ms.take j) m i p.1 p.2.1 }) (fun p => ⟨116, [(0, .one (.im (.ip [.sl (n.reg.map encIssue), .sl (n.notes.map encNote), .sl ((nums n.reg).map encI), .sl ((isort (openL n.notes)).map encI)]))), (1, isv s), (2, isv w), (7, .one (.map 1)), (10, .one (.fn (.func 98) [.ptr 7 0, .ptr 2 0, .ptr 3 0, .ptr 4 0, .ptr 5 0, .ptr 8 0])), (11, iv (i : Int)), (20, isv Ms), (21, iv (Ms.length : Int)), (22, iv (j : Int)), (36, iv (n.notes.length : Int)), (37, iv (i : Int)), (40, iv (i : Int)), (41, iv (p.1.1 : Int))], [.vec 2 [] 0 true, .map [.int .i64, .int .i64] (encPS p.1.2.1)] ++ [.row [.im (.ip [.sl (n.reg.map encIssue), .sl (n.notes.map encNote), .sl ((nums n.reg).map encI), .sl ((isort (openL n.notes)).map encI)])], .row [.im (.sl (s.map encI))], .row [.im (.sl (w.map encI))], .row [.im (rI m)], .map [.int .i64] (encMB p.1.2.2), .row [.map 6], .row [.fn (.func 98) [.ptr 7 0, .ptr 2 0, .ptr 3 0, .ptr 4 0, .ptr 5 0, .ptr 8 0]]]⟩) (fun p => i - p.1.1) ⟨(0, B2, M), by simp, hM, hB2⟩ (Weak.of_keep [0,1,2,7,10,11,20,21,22,36,37,40,41] (by simp)) ?_
      rintro ⟨⟨k, B3, M3⟩, hk, hM3, hB3⟩
      simp only at hk hM3 hB3
      simp only [iv, isv]
      by_cases hlk : k < i
      · have hwk : IntKind.i64.wrap ((k : Int) + 1) = ((k + 1 : Nat) : Int) := i64w (by omega) (by omega)
        have c4 := is_c (G := G) n s w m (by omega) hsl hwl n.notes.length i (by omega) hli M3 hM3
        have c5 := fun M hM => is_c (G := G) n s w m (by omega) hsl hwl n.notes.length k (by omega) (by omega) M hM
        have hput := fun h => hB3.put hlk hli h
        have hskip := fun h => hB3.skip (k := k) h
        simp only [frcObjs, frcCaps, fileI, iv, bv, rI, List.map_cons, List.map_nil] at c4 c5
        cases hfi : frcAt n s w m i
        · rw [hfi] at c4
          have hsk := hskip (by rw [hfi]; simp)
          have hs : True := trivial
          repeat' first | (with_reducible first | refine q01 ?_ | refine q04 ?_ | refine q11 ?_ | refine q12 ?_ | refine q14 ?_) | (refine CallE.embed_ex [2,3,4,5,6,7,8] (c4) ?_ ?_ ?_ ?_ ?_ ?_; (focus (simp [emb]; done)); (focus (simp; done)); (focus (simp; done)); (focus (simp; done)); (focus (refine emb_all ?_; simp [emb, embAll]; done)); intro mm hmm; try simp -dsimp [mergeO, emb, hlk, hwk, hs]) | (with_reducible refine DT_regionE [0, 1, 2, 6, 7, 9, 10, 11, 12, 13, 14, 15, 16, 17, 20, 21, 22, 23, 36, 37, 38, 40, 41, 42, 51, 63, 64, 65, 66, 74, 75, 76, 77, 104] ?_; simp -dsimp [hlk, hwk, hs]) | (refine DT_cond rfl (fun h => ?_) (fun h => ?_) <;> (try simp only [nrm] at h) <;> (try exact Bool.noConfusion h))
          all_goals try simp -dsimp [hlk, hwk, hs]
          all_goals try clear hs
          all_goals exact At.round ⟨(k + 1, B3, mm), by simp only; omega, hmm, hsk⟩ (by simp only; omega) (Weak.of_drop [0,1,2,7,10,11,20,21,22,36,37,40,41] 9 (by simp) (by simp) (by simp))
        · cases hfk : frcAt n s w m k
          · rw [hfi] at c4
            simp only [hfk] at c5
            have hsk := hskip (by rw [hfk]; simp)
            have hs : True := trivial
            repeat' first | (with_reducible first | refine q01 ?_ | refine q04 ?_ | refine q11 ?_ | refine q12 ?_ | refine q14 ?_) | (refine CallE.embed_ex [2,3,4,5,6,7,8] (c4) ?_ ?_ ?_ ?_ ?_ ?_; (focus (simp [emb]; done)); (focus (simp; done)); (focus (simp; done)); (focus (simp; done)); (focus (refine emb_all ?_; simp [emb, embAll]; done)); intro mma hmma; try simp -dsimp [mergeO, emb, hlk, hwk, hs]) | (refine CallE.embed_ex [2,3,4,5,6,7,8] (c5 mma hmma) ?_ ?_ ?_ ?_ ?_ ?_; (focus (simp [emb]; done)); (focus (simp; done)); (focus (simp; done)); (focus (simp; done)); (focus (refine emb_all ?_; simp [emb, embAll]; done)); intro mm hmm; try simp -dsimp [mergeO, emb, hlk, hwk, hs]) | (with_reducible refine DT_regionE [0, 1, 2, 6, 7, 9, 10, 11, 12, 13, 14, 15, 16, 17, 20, 21, 22, 23, 36, 37, 38, 40, 41, 42, 51, 63, 64, 65, 66, 74, 75, 76, 77, 104] ?_; simp -dsimp [hlk, hwk, hs]) | (refine DT_cond rfl (fun h => ?_) (fun h => ?_) <;> (try simp only [nrm] at h) <;> (try exact Bool.noConfusion h))
            all_goals try simp -dsimp [hlk, hwk, hs]
            all_goals try clear hs
            all_goals exact At.round ⟨(k + 1, B3, mm), by simp only; omega, hmm, hsk⟩ (by simp only; omega) (Weak.of_drop [0,1,2,7,10,11,20,21,22,36,37,40,41] 9 (by simp) (by simp) (by simp))
          · rw [hfi] at c4
            simp only [hfk] at c5
            have hpt := hput ⟨hfi, hfk⟩
            have hs : True := trivial
            repeat' first | (with_reducible first | refine q01 ?_ | refine q04 ?_ | refine q11 ?_ | refine q12 ?_ | refine q14 ?_) | (refine CallE.embed_ex [2,3,4,5,6,7,8] (c4) ?_ ?_ ?_ ?_ ?_ ?_; (focus (simp [emb]; done)); (focus (simp; done)); (focus (simp; done)); (focus (simp; done)); (focus (refine emb_all ?_; simp [emb, embAll]; done)); intro mma hmma; try simp -dsimp [mergeO, emb, hlk, hwk, hs]) | (refine CallE.embed_ex [2,3,4,5,6,7,8] (c5 mma hmma) ?_ ?_ ?_ ?_ ?_ ?_; (focus (simp [emb]; done)); (focus (simp; done)); (focus (simp; done)); (focus (simp; done)); (focus (refine emb_all ?_; simp [emb, embAll]; done)); intro mm hmm; try simp -dsimp [mergeO, emb, hlk, hwk, hs]) | (with_reducible refine DT_regionE [0, 1, 2, 6, 7, 9, 10, 11, 12, 13, 14, 15, 16, 17, 20, 21, 22, 23, 36, 37, 38, 40, 41, 42, 51, 63, 64, 65, 66, 74, 75, 76, 77, 104] ?_; simp -dsimp [hlk, hwk, hs]) | (refine DT_cond rfl (fun h => ?_) (fun h => ?_) <;> (try simp only [nrm] at h) <;> (try exact Bool.noConfusion h))
            all_goals try simp -dsimp [hlk, hwk, hs]
            all_goals try clear hs
            all_goals exact At.round ⟨(k + 1, pput ((k : Int), (i : Int)) B3, mm), by simp only; omega, hmm, hpt⟩ (by simp only; omega) (Weak.of_drop [0,1,2,7,10,11,20,21,22,36,37,40,41] 9 (by simp) (by simp) (by simp))
      · obtain rfl : k = i := by omega
        have hrow := hB3.row
        have hs : True := trivial
        repeat' first | (with_reducible first | refine q01 ?_ | refine q03 ?_ | refine q04 ?_ | refine q06 ?_ | refine q11 ?_ | refine q16 ?_) | (with_reducible refine DT_regionE [0, 1, 2, 6, 7, 9, 10, 11, 12, 13, 14, 15, 16, 17, 20, 21, 22, 23, 36, 37, 38, 40, 41, 42, 51, 63, 64, 65, 66, 74, 75, 76, 77, 104] ?_; simp -dsimp [hlk, hwi, hs]) | (refine DT_cond rfl (fun h => ?_) (fun h => ?_) <;> (try simp only [nrm] at h) <;> (try exact Bool.noConfusion h))
        all_goals try simp -dsimp [hlk, hwi, hs]
        all_goals try clear hs
        all_goals exact At.round ⟨(k + 1, B3, M3), by simp only; omega, hM3, hrow⟩ (by simp only; omega) (Weak.of_drop [0,1,2,7,10,20,21,22,36,37] 9 (by simp) (by simp) (by simp))
    · obtain rfl : i = n.notes.length := by omega
      have hmk := fun m' => hB2.mark (m' := m')
      have hs : True := trivial
      repeat' first | (with_reducible first | refine q01 ?_ | refine q03 ?_ | refine q04 ?_ | refine q06 ?_ | refine q11 ?_ | refine q16 ?_) | (with_reducible refine DT_regionE [0, 1, 2, 6, 7, 9, 10, 11, 12, 13, 14, 15, 16, 17, 20, 21, 22, 23, 36, 37, 38, 40, 41, 42, 51, 63, 64, 65, 66, 74, 75, 76, 77, 104] ?_; simp -dsimp [hli, hw, hs]) | (refine DT_cond rfl (fun h => ?_) (fun h => ?_) <;> (try simp only [nrm] at h) <;> (try exact Bool.noConfusion h))
      all_goals try simp -dsimp [hli, hw, hs]
      all_goals try clear hs
      all_goals exact At.round ⟨(j + 1, B2), by simp only; omega, fun m' => by rw [htk]; exact hmk m'⟩ (by simp only; omega) (Weak.of_drop [0,1,2,7,20,21,22] 2 (by simp) (by simp) (by simp))
  · obtain rfl : j = Ms.length := by omega
    rw [List.take_length, ← hMs] at hB
    have hboth := fun a b hb => (hB 0).both (a := a) (b := b) hb
    have hs : True := trivial
    repeat' first | (with_reducible first | refine q01 ?_ | refine q03 ?_ | refine q06 ?_ | refine q11 ?_ | refine q12 ?_ | refine q16 ?_) | (with_reducible refine DT_regionE [0, 1, 2, 6, 7, 9, 10, 11, 12, 13, 14, 15, 16, 17, 20, 21, 22, 23, 36, 37, 38, 40, 41, 42, 51, 63, 64, 65, 66, 74, 75, 76, 77, 104] ?_; simp -dsimp [hlt, hs]) | (refine DT_cond rfl (fun h => ?_) (fun h => ?_) <;> (try simp only [nrm] at h) <;> (try exact Bool.noConfusion h))
    all_goals try simp -dsimp [hlt, hs]
    all_goals try clear hs
    refine DT_loop (ι := { p : Nat × Nat × Bool // p.1 ≤ n.notes.length }) (fun p => ⟨116, [(0, .one (.im (.ip [.sl (n.reg.map encIssue), .sl (n.notes.map encNote), .sl ((nums n.reg).map encI), .sl ((isort (openL n.notes)).map encI)]))), (7, .one (.map 1)), (13, .one (.vec 2 p.1.2.1 0 (clTo n s w p.1.1).length)), (63, .one (.im (.sl (n.notes.map encNote)))), (64, iv (n.notes.length : Int)), (65, iv (p.1.1 : Int))], [.vec 2 [] 0 true, .map [.int .i64, .int .i64] (encPS B), .vec 2 (ims ((clTo n s w p.1.1).map encPr)) p.1.2.1 p.1.2.2]⟩) (fun p => n.notes.length - p.1.1) ⟨(0, 0, true), by simp⟩ (Weak.of_keep [0,7,13,63,64,65] (by simp [clTo])) ?_
    rintro ⟨⟨a, g, nl⟩, ha⟩
    simp only at ha
    simp only [iv]
    have hTl := clTo_len n s w a
    have hTl2 : a * n.notes.length ≤ 16 * 16 := Nat.mul_le_mul (by omega) hl
    by_cases hla : a < n.notes.length
    · have hwa : IntKind.i64.wrap ((a : Int) + 1) = ((a + 1 : Nat) : Int) := i64w (by omega) (by omega)
      have hsa := clTo_succ n s w a
      have hna : numAt n.notes a = n.notes[a].number := by simp [numAt, hla]
      have hxo : n.notes[a]? = some n.notes[a] := by simp [hla]
      generalize hx : n.notes[a] = x at *
      generalize clTo n s w a = T at *
      have hs : True := trivial
      repeat' first | (with_reducible first | refine q01 ?_ | refine q11 ?_ | refine q12 ?_ | refine q14 ?_) | (with_reducible refine DT_regionE [0, 1, 2, 6, 7, 9, 10, 11, 12, 13, 14, 15, 16, 17, 20, 21, 22, 23, 36, 37, 38, 40, 41, 42, 51, 63, 64, 65, 66, 74, 75, 76, 77, 104] ?_; simp -dsimp [hx, hla, hs]) | (refine DT_cond rfl (fun h => ?_) (fun h => ?_) <;> (try simp only [nrm] at h) <;> (try exact Bool.noConfusion h))
      all_goals try simp -dsimp [hx, hla, hs]
      all_goals try clear hs
      refine DT_loop (ι := { p : Nat × Nat × Bool // p.1 ≤ n.notes.length }) (fun p => ⟨116, [(0, .one (.im (.ip [.sl (n.reg.map encIssue), .sl (n.notes.map encNote), .sl ((nums n.reg).map encI), .sl ((isort (openL n.notes)).map encI)]))), (7, .one (.map 1)), (13, .one (.vec 2 p.1.2.1 0 (T ++ clRow n s w a p.1.1).length)), (14, iv (a : Int)), (15, .one (.ptr 3 0)), (63, .one (.im (.sl (n.notes.map encNote)))), (64, iv (n.notes.length : Int)), (65, iv (a : Int)), (74, .one (.im (.sl (n.notes.map encNote)))), (75, iv (n.notes.length : Int)), (76, iv (p.1.1 : Int))], [.vec 2 [] 0 true, .map [.int .i64, .int .i64] (encPS B), .vec 2 (ims ((T ++ clRow n s w a p.1.1).map encPr)) p.1.2.1 p.1.2.2, .row ((encNote x).map .im)]⟩) (fun p => n.notes.length - p.1.1) ⟨(0, g, nl), by simp⟩ (Weak.of_keep [0,7,13,14,15,63,64,65,74,75,76] (by simp [clRow])) ?_
      rintro ⟨⟨b, g2, nl2⟩, hb⟩
      simp only at hb
      simp only [iv]
      have hRl := clRow_len n s w a b
      by_cases hlb : b < n.notes.length
      · have hwb : IntKind.i64.wrap ((b : Int) + 1) = ((b + 1 : Nat) : Int) := i64w (by omega) (by omega)
        have hsb := clRow_succ n s w a b
        have hnb : numAt n.notes b = n.notes[b].number := by simp [numAt, hlb]
        have hyo : n.notes[b]? = some n.notes[b] := by simp [hlb]
        have hbo := hboth a b hlb
        have hck : clOk n s w a b = (decide (((a : Int), (b : Int)) ∈ B) && (decide (x.drawing ≠ 0) && decide (x.drawing = n.notes[b].drawing) && decide (n.notes[b].letter < x.letter))) := by
          rw [hbo, clOk, hxo, hyo]
        generalize hy : n.notes[b] = y at *
        rw [hna, hnb] at hsb
        have hTR : (T ++ clRow n s w a b).length ≤ 500 := by rw [List.length_append]; omega
        have hsb2 : T ++ clRow n s w a (b + 1) = (T ++ clRow n s w a b) ++ (if clOk n s w a b = true then [(x.number, y.number)] else []) := by
          rw [hsb, ← List.append_assoc]
        clear hsb
        generalize T ++ clRow n s w a b = R at *
        cases hq : decide (((a : Int), (b : Int)) ∈ B)
        · have hq' : ¬ ((a : Int), (b : Int)) ∈ B := by simpa using hq
          rw [hq] at hck
          rw [hck, Bool.false_and, if_neg Bool.false_ne_true, List.append_nil] at hsb2
          have hs : True := trivial
          repeat' first | (with_reducible first | refine q01 ?_ | refine q04 ?_ | refine q11 ?_ | refine q12 ?_ | refine q14 ?_) | (with_reducible refine DT_regionE [0, 1, 2, 6, 7, 9, 10, 11, 12, 13, 14, 15, 16, 17, 20, 21, 22, 23, 36, 37, 38, 40, 41, 42, 51, 63, 64, 65, 66, 74, 75, 76, 77, 104] ?_; simp -dsimp [hy, hlb, hwb, hq', hs]) | (refine DT_cond rfl (fun h => ?_) (fun h => ?_) <;> (try simp only [nrm] at h) <;> (try exact Bool.noConfusion h))
          all_goals try simp -dsimp [hy, hlb, hwb, hq', hs]
          all_goals try clear hs
          all_goals exact At.round ⟨(b + 1, g2, nl2), by simp only; omega⟩ (by simp only; omega) (Weak.of_drop [0,7,13,14,15,63,64,65,74,75,76] 4 (by simp) (by simp) (by simp [hsb2]))
        · have hq' : ((a : Int), (b : Int)) ∈ B := by simpa using hq
          rw [hq, Bool.true_and] at hck
          have hs : True := trivial
          repeat' first | (with_reducible first | refine q01 ?_ | refine q04 ?_ | refine q11 ?_ | refine q12 ?_ | refine q14 ?_ | refine And.intro (by omega) ?_) | (with_reducible refine DT_regionE [0, 1, 2, 6, 7, 9, 10, 11, 12, 13, 14, 15, 16, 17, 20, 21, 22, 23, 36, 37, 38, 40, 41, 42, 51, 63, 64, 65, 66, 74, 75, 76, 77, 104] ?_; simp -dsimp [hy, hlb, hwb, hq', hs]) | (refine DT_cond rfl (fun h => ?_) (fun h => ?_) <;> (try simp only [nrm] at h) <;> (try exact Bool.noConfusion h)) | (with_reducible refine GStop_split ?_ ?_ <;> intro h <;> have h0 := h <;> (try simp only [nrm] at h) <;> (try exact Bool.noConfusion h) <;> have h2 := h <;> (try simp at h2) <;> (replace hs := And.intro h0 (And.intro h (And.intro h2 hs))) <;> simp -dsimp [h0, h, h2, hy, hlb, hwb, hq', hs])
          all_goals try simp -dsimp [hy, hlb, hwb, hq', hs]
          all_goals try clear hs
          · have hc : clOk n s w a b = true := by rw [hck]; simp only [Bool.and_eq_true, decide_eq_true_eq]; exact ⟨⟨by assumption, by assumption⟩, by assumption⟩
            rw [if_pos hc] at hsb2
            exact At.round ⟨(b + 1, g2 + 1, false), by simp only; omega⟩ (by simp only; omega) (Weak.of_drop [0,7,13,14,15,63,64,65,74,75,76] 4 (by simp) (by simp) (by simp [hsb2] <;> omega))
          all_goals
            have hc : clOk n s w a b = false := by rw [hck, ← Bool.not_eq_true]; simp only [Bool.and_eq_true, decide_eq_true_eq]; omega
            rw [hc, if_neg Bool.false_ne_true, List.append_nil] at hsb2
            exact At.round ⟨(b + 1, g2, nl2), by simp only; omega⟩ (by simp only; omega) (Weak.of_drop [0,7,13,14,15,63,64,65,74,75,76] 4 (by simp) (by simp) (by simp [hsb2] <;> omega))
      · obtain rfl : b = n.notes.length := by omega
        rw [← hsa]
        have hs : True := trivial
        repeat' first | (with_reducible first | refine q01 ?_ | refine q03 ?_ | refine q04 ?_ | refine q06 ?_ | refine q11 ?_ | refine q16 ?_) | (with_reducible refine DT_regionE [0, 1, 2, 6, 7, 9, 10, 11, 12, 13, 14, 15, 16, 17, 20, 21, 22, 23, 36, 37, 38, 40, 41, 42, 51, 63, 64, 65, 66, 74, 75, 76, 77, 104] ?_; simp -dsimp [hlb, hwa, hs]) | (refine DT_cond rfl (fun h => ?_) (fun h => ?_) <;> (try simp only [nrm] at h) <;> (try exact Bool.noConfusion h))
        all_goals try simp -dsimp [hlb, hwa, hs]
        all_goals try clear hs
        all_goals exact At.round ⟨(a + 1, g2, nl2), by simp only; omega⟩ (by simp only; omega) (Weak.of_drop [0,7,13,63,64,65] 3 (by simp) (by simp) (by simp))
    · obtain rfl : a = n.notes.length := by omega
      have hs : True := trivial
      repeat' first | (with_reducible first | refine q01 ?_ | refine q03 ?_ | refine q06 ?_ | refine q11 ?_ | refine q16 ?_ | refine q17 ?_) | (with_reducible refine At.fn_ret (by simp -dsimp [hla, hs]; exact rfl) ?_) | (with_reducible refine DT_regionE [0, 1, 2, 6, 7, 9, 10, 11, 12, 13, 14, 15, 16, 17, 20, 21, 22, 23, 36, 37, 38, 40, 41, 42, 51, 63, 64, 65, 66, 74, 75, 76, 77, 104] ?_; simp -dsimp [hla, hs]) | (refine DT_cond rfl (fun h => ?_) (fun h => ?_) <;> (try simp only [nrm] at h) <;> (try exact Bool.noConfusion h))
      all_goals try simp -dsimp [hla, hs]
      all_goals try clear hs
      all_goals simp [clashL]
end Go.Proofs
namespace Go.Proofs
open Go Go.Ab
/-- What the reference's table holds at a place of its three loops. -/
def inTab (n : Notes) (s w : List Int) (M : List Int) (m : Int) (a b : Nat) (x y : Nat) : Prop := x < y ∧ y < n.notes.length ∧ ((∃ m' ∈ M, frcAt n s w m' x = true ∧ frcAt n s w m' y = true) ∨ ((x < a ∨ x = a ∧ y < b) ∧ frcAt n s w m x = true ∧ frcAt n s w m y = true))
structure Tspec (n : Notes) (s w : List Int) (M : List Int) (m : Int) (a b : Nat) (L : List Bool) : Prop where
  len : L.length = 144
  at' : ∀ x y : Nat, x < 12 → y < 12 → (L[x * 12 + y]? = some true ↔ inTab n s w M m a b x y)
theorem Tspec.start (n : Notes) (s w : List Int) (m : Int) : Tspec n s w [] m 0 0 (List.replicate 144 false) := ⟨by simp, fun x y hx hy => by
  have : x * 12 + y < 144 := by omega
  rw [List.getElem?_replicate, if_pos this]
  simp [inTab]⟩
theorem Tspec.mark {n : Notes} {s w : List Int} {M : List Int} {m m' : Int} {b : Nat} {L : List Bool} (h : Tspec n s w M m n.notes.length b L) : Tspec n s w (M ++ [m]) m' 0 0 L := ⟨h.len, fun x y hx hy => by
  rw [h.at' x y hx hy]
  simp only [inTab, List.mem_append, List.mem_singleton]
  constructor
  · rintro ⟨h1, h2, h3 | ⟨h3, h4⟩⟩
    · obtain ⟨z, hz, hh⟩ := h3
      exact ⟨h1, h2, .inl ⟨z, .inl hz, hh⟩⟩
    · exact ⟨h1, h2, .inl ⟨m, .inr rfl, h4⟩⟩
  · rintro ⟨h1, h2, h3 | ⟨h3, h4⟩⟩
    · obtain ⟨z, hz | rfl, hh⟩ := h3
      · exact ⟨h1, h2, .inl ⟨z, hz, hh⟩⟩
      · exact ⟨h1, h2, .inr ⟨.inl (by omega), hh⟩⟩
    · omega⟩
theorem Tspec.row {n : Notes} {s w : List Int} {M : List Int} {m : Int} {a : Nat} {L : List Bool} (h : Tspec n s w M m a n.notes.length L) : Tspec n s w M m (a + 1) 0 L := ⟨h.len, fun x y hx hy => by
  rw [h.at' x y hx hy]
  simp only [inTab]
  refine and_congr_right fun h1 => and_congr_right fun h2 => or_congr_right (and_congr_left fun _ => ?_)
  omega⟩
theorem Tspec.begin {n : Notes} {s w : List Int} {M : List Int} {m : Int} {a : Nat} {L : List Bool} (h : Tspec n s w M m a 0 L) : Tspec n s w M m a (a + 1) L := ⟨h.len, fun x y hx hy => by
  rw [h.at' x y hx hy]
  simp only [inTab]
  refine and_congr_right fun h1 => and_congr_right fun h2 => or_congr_right (and_congr_left fun _ => ?_)
  omega⟩
theorem Tspec.put {n : Notes} {s w : List Int} {M : List Int} {m : Int} {a b : Nat} {L : List Bool} (h : Tspec n s w M m a b L) (hab : a < b) (hb : b < n.notes.length) (hn : n.notes.length ≤ 12) {v : Bool} (hv : L[a * 12 + b]? = some v) : Tspec n s w M m a (b + 1) (L.set (a * 12 + b) (v || (frcAt n s w m a && frcAt n s w m b))) := ⟨by rw [List.length_set]; exact h.len, fun x y hx hy => by
  have ho := h.at' x y hx hy
  by_cases e : x = a ∧ y = b
  · obtain ⟨rfl, rfl⟩ := e
    have hl : x * 12 + y < L.length := by rw [h.len]; omega
    rw [List.getElem?_set_self hl]
    rw [hv] at ho
    simp only [Option.some.injEq, Bool.or_eq_true, Bool.and_eq_true] at ho ⊢
    rw [ho]
    simp only [inTab]
    constructor
    · rintro (⟨h1, h2, h3⟩ | h4)
      · exact ⟨h1, h2, h3.imp id fun h3 => ⟨by omega, h3.2⟩⟩
      · exact ⟨hab, hb, .inr ⟨by simp, h4⟩⟩
    · rintro ⟨h1, h2, h3 | ⟨h3, h4⟩⟩
      · exact .inl ⟨h1, h2, .inl h3⟩
      · exact .inr h4
  · have hne : a * 12 + b ≠ x * 12 + y := by omega
    rw [List.getElem?_set_ne hne, ho]
    simp only [inTab]
    refine and_congr_right fun h1 => and_congr_right fun h2 => or_congr_right (and_congr_left fun _ => ?_)
    omega⟩
theorem Tspec.both {n : Notes} {s w : List Int} {M : List Int} {m : Int} {L : List Bool} (h : Tspec n s w M m 0 0 L) (hM : ∀ m', m' ∈ M ↔ m' ∈ marksP n.notes) {a b : Nat} (hab : a < b) (hb : b < n.notes.length) (hn : n.notes.length ≤ 12) : L[a * 12 + b]? = some (bothB n s w a b) := by
  have ho := h.at' a b (by omega) (by omega)
  have hl : a * 12 + b < L.length := by rw [h.len]; omega
  rw [List.getElem?_eq_getElem hl] at ho ⊢
  congr 1
  rw [Bool.eq_iff_iff]
  rw [Option.some.injEq] at ho
  rw [ho]
  simp only [inTab, bothB, List.any_eq_true, Bool.and_eq_true]
  constructor
  · rintro ⟨_, _, h3 | h3⟩
    · obtain ⟨z, hz, hh⟩ := h3
      exact ⟨z, (hM z).1 hz, hh⟩
    · omega
  · rintro ⟨z, hz, hh⟩
    exact ⟨hab, hb, .inl ⟨z, (hM z).2 hz, hh⟩⟩
theorem check_range {l : List Issue} (h : checkR l = 0) {x : Issue} (hx : x ∈ l) : 1 ≤ x.drawing ∧ 1 ≤ x.letter ∧ x.letter ≤ 8 := by
  have h1 := (scan_all (listed_scan (check_listed h))).2.2.2.1 x hx
  simp only [issueOk, ck1, Bool.and_eq_true, decide_eq_true_eq] at h1
  omega
/-- The drawings of valid notes are not negative. -/
theorem drawing_nn {n : Notes} (h0 : checkR n.reg = 0) (hok : allOk n) {x : Note} (hx : x ∈ n.notes) : 0 ≤ x.drawing := by
  obtain ⟨i, hi, e⟩ := List.mem_iff_getElem.1 hx
  have h := hok i x (by rw [List.getElem?_eq_getElem hi, e])
  simp only [nkA, Bool.and_eq_true] at h
  have h4 := h.1.1.1.1.2
  unfold nk4 at h4
  split at h4
  · omega
  · rw [decide_eq_true_eq] at h4
    unfold atE at h4
    rw [if_neg (show ¬ checkR n.reg ≠ 0 by simp [h0])] at h4
    split at h4
    · rename_i hf
      obtain ⟨y, hy⟩ := Option.isSome_iff_exists.1 hf
      have hm : y ∈ n.reg := List.mem_of_find?_eq_some hy
      have hp := List.find?_some hy
      simp only [Bool.and_eq_true, beq_iff_eq] at hp
      have hk := check_range h0 hm
      omega
    · cases h4
end Go.Proofs
namespace Go.Ab
open Go
def bcs (L : List Bool) : List DC := L.map fun b => .im (.raw (.bool b))
theorem bcs_len (L : List Bool) : (bcs L).length = L.length := by simp [bcs]
theorem bcs_at {L : List Bool} {k : Nat} {v : Bool} (h : L[k]? = some v) : ((bcs L).drop k).take 1 = [.im (.raw (.bool v))] := by
  obtain ⟨hk, e⟩ := List.getElem?_eq_some_iff.1 h
  rw [List.drop_eq_getElem_cons (by rw [bcs_len]; exact hk)]
  simp [bcs, e]
/-- A number that simp leaves alone. -/
def nOf (k : Nat) : Nat := k
@[simp] theorem zcells_rep : ∀ (n k : Nat), zcells (List.replicate n (.bool false)) k = (List.replicate n (.im (.raw (.bool false))), [])
  | 0, _ => rfl
  | n + 1, k => by rw [List.replicate_succ, List.replicate_succ, zcells, zcells_rep n k]; exact fun h => by cases h
theorem bcs_rep (n : Nat) : bcs (List.replicate n false) = List.replicate n (.im (.raw (.bool false))) := by simp [bcs]
theorem bcs_set {L : List Bool} {k : Nat} {v : Bool} (h : k < L.length) : List.take k (bcs L) ++ DC.im (IC.raw (Value.bool v)) :: List.drop (k + 1) (bcs L) = bcs (L.set k v) := by
  simp only [bcs]
  rw [List.set_eq_take_append_cons_drop, if_pos h]
  simp
@[simp] theorem fz_bcs (m : Nat) (O : List DObj) (L : List Bool) : (bcs L).map (fz m O) = bcs L := by
  simp only [bcs, List.map_map]
  exact List.map_congr_left fun x _ => by simp [fz]
theorem set_same {L : List Bool} {k : Nat} {v : Bool} (h : L[k]? = some v) : L.set k v = L := by
  obtain ⟨hk, e⟩ := List.getElem?_eq_some_iff.1 h
  rw [← e, List.set_getElem_self]
end Go.Ab
namespace Go.Proofs
open Go Go.Ab
@[simp] theorem Tryd.tzero183 : tzero Tryd.prog 183 = some (List.replicate (nOf 144) (.bool false)) := by kernel_rfl
set_option linter.unusedSimpArgs false
variable {G : Nat → Option (List IC)}
set_option maxRecDepth 4000 in
set_option maxHeartbeats 8000000 in
theorem clash3_c (n : Notes) (s w : List Int) (h0 : checkR n.reg = 0) (hok : allOk n) (hl : n.notes.length ≤ 12) (hsl : s.length < 1000) (hwl : w.length < 1000) (objs : List DObj) : DCall Tryd.prog G 68 [notesv n, isv s, isv w] objs (fun rr objs' => rr = prv (clashL n s w) ∧ objs' = objs) := by
  refine DCall.frame ?_ (by simp) (by simp) objs
  refine DCall_intro Tryd.func68 rfl Tryd.ntmps68 (by simp) rfl ?_
  try simp only [notesv, isv, isv]
  have c1 := marks3_c (G := G) n (by omega) (fun x hx => by have := nk3_of hok hx; omega)
  have c2 := fun m => force3_c (G := G) n s w m (by omega) hsl hwl
  have hml := marksR_len n.notes
  have hMm := fun m => marksR_mem (m := m) hok
  simp only [isv, bsv] at c2
  have hs : True := trivial
  repeat' first | (with_reducible first | refine q01 ?_ | refine q11 ?_ | refine q12 ?_) | (refine CallE.pure (c1) ?_; try simp -dsimp [hs]) | (with_reducible refine DT_regionE [0, 1, 2, 3, 6, 7, 8, 9, 10, 11, 12, 13, 14, 15, 16, 17, 23, 37, 45, 73, 82, 118] ?_; simp -dsimp [hs])
  all_goals try simp -dsimp [hs]
  all_goals try clear hs
  generalize hMs : marksR n.notes = Ms at *
  refine DT_loop (ι := { p : Nat × List Bool // p.1 ≤ Ms.length ∧ ∀ m, Tspec n s w (Ms.take p.1) m 0 0 p.2 }) (fun p => ⟨128, [(1, isv s), (2, isv w), (3, .one (.ptr 0 0)), (7, .one (.ptr 2 0)), (8, isv Ms), (9, iv (p.1.1 : Int))], [.row ((encNotes n).map .im), .vec 2 [] 0 true, .row (bcs p.1.2)]⟩) (fun p => Ms.length - p.1.1) ⟨(0, List.replicate (nOf 144) false), by simp, fun m => Tspec.start n s w m⟩ (Weak.of_keep [1,2,3,7,8,9] (by simp [bcs_rep])) ?_
  rintro ⟨⟨j, L⟩, hj, hT⟩
  simp only at hj hT
  simp only [iv, isv]
  by_cases hlt : j < Ms.length
  · have hw : IntKind.i64.wrap ((j : Int) + 1) = ((j + 1 : Nat) : Int) := i64w (by omega) (by omega)
    have htk : Ms.take (j + 1) = Ms.take j ++ [Ms[j]] := List.take_succ_eq_append_getElem hlt
    generalize hm : Ms[j] = m at *
    have c3 := c2 m
    have hFl := frcL_len s w m n.notes
    have hFa : ∀ (k : Nat) (h : k < (frcL s w m n.notes).length), (frcL s w m n.notes)[k] = frcAt n s w m k := fun k h => by rw [frcAt, List.getElem?_eq_getElem h]; rfl
    generalize hF : frcL s w m n.notes = F at *
    have hs : True := trivial
    repeat' first | (with_reducible first | refine q01 ?_ | refine q11 ?_ | refine q12 ?_ | refine q14 ?_) | (refine QCall_pure (c3) ?_; try simp -dsimp [hm, hlt, hs]) | (refine DT_regionM (id := 6) (nt := 128) 9 [0, 1, 2, 3, 6, 7, 8, 9, 10, 11, 12, 13, 14, 15, 16, 17, 23, 37, 45, 73, 82, 118] mixed rfl (by kernel_rfl) ?_; simp -dsimp [hm, hlt, hs]) | (with_reducible refine DT_regionE [0, 1, 2, 3, 6, 7, 8, 9, 10, 11, 12, 13, 14, 15, 16, 17, 23, 37, 45, 73, 82, 118] ?_; simp -dsimp [hm, hlt, hs]) | (refine DT_cond rfl (fun h => ?_) (fun h => ?_) <;> (try simp only [nrm] at h) <;> (try exact Bool.noConfusion h))
    all_goals try simp -dsimp [hm, hlt, hs]
    all_goals try clear hs
    refine DT_loop (ι := { p : Nat × List Bool // p.1 ≤ n.notes.length ∧ Tspec n s w (Ms.take j) m p.1 0 p.2 }) (fun p => ⟨128, [(1, isv s), (2, isv w), (3, .one (.ptr 0 0)), (7, .one (.ptr 2 0)), (8, isv Ms), (9, iv (j : Int)), (10, bsv F), (11, iv (p.1.1 : Int))], [.row ((encNotes n).map .im), .vec 2 [] 0 true, .row (bcs p.1.2)]⟩) (fun p => n.notes.length - p.1.1) ⟨(0, L), by simp, hT m⟩ (Weak.of_keep [1,2,3,7,8,9,10,11] (by simp)) ?_
    rintro ⟨⟨a, L2⟩, ha, hT2⟩
    simp only at ha hT2
    simp only [iv, isv, bsv]
    by_cases hla : a < F.length
    · have hwa : IntKind.i64.wrap ((a : Int) + 1) = ((a + 1 : Nat) : Int) := i64w (by omega) (by omega)
      have hbg := hT2.begin
      have hs : True := trivial
      repeat' first | (with_reducible first | refine q01 ?_ | refine q11 ?_ | refine q12 ?_ | refine q14 ?_) | (with_reducible refine DT_regionE [0, 1, 2, 3, 6, 7, 8, 9, 10, 11, 12, 13, 14, 15, 16, 17, 23, 37, 45, 73, 82, 118] ?_; simp -dsimp [hla, hwa, hs]) | (refine DT_cond rfl (fun h => ?_) (fun h => ?_) <;> (try simp only [nrm] at h) <;> (try exact Bool.noConfusion h))
      all_goals try simp -dsimp [hla, hwa, hs]
      all_goals try clear hs
      refine DT_loop (ι := { p : Nat × List Bool // a + 1 ≤ p.1 ∧ p.1 ≤ n.notes.length ∧ Tspec n s w (Ms.take j) m a p.1 p.2 }) (fun p => ⟨128, [(1, isv s), (2, isv w), (3, .one (.ptr 0 0)), (7, .one (.ptr 2 0)), (8, isv Ms), (9, iv (j : Int)), (10, bsv F), (11, iv (a : Int)), (12, iv (p.1.1 : Int))], [.row ((encNotes n).map .im), .vec 2 [] 0 true, .row (bcs p.1.2)]⟩) (fun p => n.notes.length - p.1.1) ⟨(a + 1, L2), by simp, by simp only; omega, hbg⟩ (Weak.of_keep [1,2,3,7,8,9,10,11,12] (by simp)) ?_
      rintro ⟨⟨b, L3⟩, hab, hb, hT3⟩
      simp only at hab hb hT3
      simp only [iv, isv, bsv]
      by_cases hlb : b < F.length
      · have hwb : IntKind.i64.wrap ((b : Int) + 1) = ((b + 1 : Nat) : Int) := i64w (by omega) (by omega)
        have hlen := hT3.len
        have hk : a * 12 + b < L3.length := by omega
        have hv : L3[a * 12 + b]? = some L3[a * 12 + b] := by simp [hk]
        have hput := hT3.put (by omega) (by omega) hl hv
        have hat := bcs_at hv
        rw [← hFa a hla, ← hFa b hlb] at hput
        have ha12 : (a : Int) < 12 := by omega
        have hb12 : (b : Int) < 12 := by omega
        have ha0 : a < 12 := by omega
        have hb0 : b < 12 := by omega
        have hbl := bcs_len L3
        have hk143 : a * 12 + b ≤ 143 := by omega
        generalize L3[a * 12 + b] = v at *
        generalize hfa : F[a] = fa at *
        generalize hfb : F[b] = fb at *
        cases v <;> cases fa <;> cases fb
        all_goals
          have hs : True := trivial
          repeat' first | (with_reducible first | refine q01 ?_ | refine q04 ?_ | refine q11 ?_ | refine q12 ?_ | refine q14 ?_) | (refine DT_regionM (id := 13) (nt := 128) 21 [0, 1, 2, 3, 6, 7, 8, 9, 10, 11, 12, 13, 14, 15, 16, 17, 23, 37, 45, 73, 82, 118] mixed rfl (by kernel_rfl) ?_; simp -dsimp [hla, hlb, hwb, hfa, hfb, ha12, hb12, ha0, hb0, hat, hbl, hlen, hk143, hs]) | (with_reducible refine DT_regionE [0, 1, 2, 3, 6, 7, 8, 9, 10, 11, 12, 13, 14, 15, 16, 17, 23, 37, 45, 73, 82, 118] ?_; simp -dsimp [hla, hlb, hwb, hfa, hfb, ha12, hb12, ha0, hb0, hat, hbl, hlen, hk143, hs]) | (refine DT_cond rfl (fun h => ?_) (fun h => ?_) <;> (try simp only [nrm] at h) <;> (try exact Bool.noConfusion h))
          all_goals try simp -dsimp [hla, hlb, hwb, hfa, hfb, ha12, hb12, ha0, hb0, hat, hbl, hlen, hk143, hs]
          all_goals try clear hs
        all_goals exact At.round ⟨(b + 1, _), by simp only; omega, by simp only; omega, hput⟩ (by simp only; omega) (Weak.of_keep [1,2,3,7,8,9,10,11,12] (by simp [bcs_set hk, set_same hv]))
      · obtain rfl : b = n.notes.length := by omega
        have hrow := hT3.row
        have hs : True := trivial
        repeat' first | (with_reducible first | refine q01 ?_ | refine q03 ?_ | refine q04 ?_ | refine q06 ?_ | refine q11 ?_ | refine q16 ?_) | (with_reducible refine DT_regionE [0, 1, 2, 3, 6, 7, 8, 9, 10, 11, 12, 13, 14, 15, 16, 17, 23, 37, 45, 73, 82, 118] ?_; simp -dsimp [hlb, hwa, hs]) | (refine DT_cond rfl (fun h => ?_) (fun h => ?_) <;> (try simp only [nrm] at h) <;> (try exact Bool.noConfusion h))
        all_goals try simp -dsimp [hlb, hwa, hs]
        all_goals try clear hs
        all_goals exact At.round ⟨(a + 1, L3), by simp only; omega, hrow⟩ (by simp only; omega) (Weak.of_keep [1,2,3,7,8,9,10,11] (by simp))
    · obtain rfl : a = n.notes.length := by omega
      have hmk := fun m' => hT2.mark (m' := m')
      have hs : True := trivial
      repeat' first | (with_reducible first | refine q01 ?_ | refine q03 ?_ | refine q04 ?_ | refine q06 ?_ | refine q11 ?_ | refine q16 ?_) | (with_reducible refine DT_regionE [0, 1, 2, 3, 6, 7, 8, 9, 10, 11, 12, 13, 14, 15, 16, 17, 23, 37, 45, 73, 82, 118] ?_; simp -dsimp [hla, hw, hs]) | (refine DT_cond rfl (fun h => ?_) (fun h => ?_) <;> (try simp only [nrm] at h) <;> (try exact Bool.noConfusion h))
      all_goals try simp -dsimp [hla, hw, hs]
      all_goals try clear hs
      all_goals exact At.round ⟨(j + 1, L2), by simp only; omega, fun m' => by rw [htk]; exact hmk m'⟩ (by simp only; omega) (Weak.of_keep [1,2,3,7,8,9] (by simp))
  · obtain rfl : j = Ms.length := by omega
    rw [List.take_length] at hT
    have hboth := fun a b hab hb => (hT 0).both hMm (a := a) (b := b) hab hb hl
    have hlen := (hT 0).len
    have hbl := bcs_len L
    have hs : True := trivial
    repeat' first | (with_reducible first | refine q01 ?_ | refine q03 ?_ | refine q06 ?_ | refine q11 ?_ | refine q12 ?_ | refine q16 ?_) | (with_reducible refine DT_regionE [0, 1, 2, 3, 6, 7, 8, 9, 10, 11, 12, 13, 14, 15, 16, 17, 23, 37, 45, 73, 82, 118] ?_; simp -dsimp [hlt, hs]) | (refine DT_cond rfl (fun h => ?_) (fun h => ?_) <;> (try simp only [nrm] at h) <;> (try exact Bool.noConfusion h))
    all_goals try simp -dsimp [hlt, hs]
    all_goals try clear hs
    refine DT_loop (ι := { p : Nat × Nat × Bool // p.1 ≤ n.notes.length }) (fun p => ⟨128, [(3, .one (.ptr 0 0)), (7, .one (.ptr 2 0)), (13, .one (.vec 3 p.1.2.1 0 (clTo n s w p.1.1).length)), (14, iv (p.1.1 : Int))], [.row ((encNotes n).map .im), .vec 2 [] 0 true, .row (bcs L), .vec 2 (ims ((clTo n s w p.1.1).map encPr)) p.1.2.1 p.1.2.2]⟩) (fun p => n.notes.length - p.1.1) ⟨(0, 0, true), by simp⟩ (Weak.of_keep [3,7,13,14] (by simp [clTo])) ?_
    rintro ⟨⟨a, g, nl⟩, ha⟩
    simp only at ha
    simp only [iv]
    have hTl := clTo_len n s w a
    have hTl2 : a * n.notes.length ≤ 12 * 12 := Nat.mul_le_mul (by omega) hl
    by_cases hla : a < n.notes.length
    · have hwa : IntKind.i64.wrap ((a : Int) + 1) = ((a + 1 : Nat) : Int) := i64w (by omega) (by omega)
      have hsa := clTo_succ n s w a
      have hlow := clRow_low n s w a (a + 1) (by omega)
      have hna : numAt n.notes a = n.notes[a].number := by simp [numAt, hla]
      have hxo : n.notes[a]? = some n.notes[a] := by simp [hla]
      have hnn := drawing_nn h0 hok (List.getElem_mem hla)
      generalize hx : n.notes[a] = x at *
      generalize clTo n s w a = T at *
      have hs : True := trivial
      repeat' first | (with_reducible first | refine q01 ?_ | refine q11 ?_ | refine q12 ?_ | refine q14 ?_) | (with_reducible refine DT_regionE [0, 1, 2, 3, 6, 7, 8, 9, 10, 11, 12, 13, 14, 15, 16, 17, 23, 37, 45, 73, 82, 118] ?_; simp -dsimp [hx, hla, hwa, hs]) | (refine DT_cond rfl (fun h => ?_) (fun h => ?_) <;> (try simp only [nrm] at h) <;> (try exact Bool.noConfusion h))
      all_goals try simp -dsimp [hx, hla, hwa, hs]
      all_goals try clear hs
      refine DT_loop (ι := { p : Nat × Nat × Bool // a + 1 ≤ p.1 ∧ p.1 ≤ n.notes.length }) (fun p => ⟨128, [(3, .one (.ptr 0 0)), (7, .one (.ptr 2 0)), (13, .one (.vec 3 p.1.2.1 0 (T ++ clRow n s w a p.1.1).length)), (14, iv (a : Int)), (15, iv (p.1.1 : Int))], [.row ((encNotes n).map .im), .vec 2 [] 0 true, .row (bcs L), .vec 2 (ims ((T ++ clRow n s w a p.1.1).map encPr)) p.1.2.1 p.1.2.2]⟩) (fun p => n.notes.length - p.1.1) ⟨(a + 1, g, nl), by simp only; omega⟩ (Weak.of_keep [3,7,13,14,15] (by simp [hlow])) ?_
      rintro ⟨⟨b, g2, nl2⟩, hab, hb⟩
      simp only at hab hb
      simp only [iv]
      have hRl := clRow_len n s w a b
      by_cases hlb : b < n.notes.length
      · have hwb : IntKind.i64.wrap ((b : Int) + 1) = ((b + 1 : Nat) : Int) := i64w (by omega) (by omega)
        have hsb := clRow_succ n s w a b
        have hnb : numAt n.notes b = n.notes[b].number := by simp [numAt, hlb]
        have hyo : n.notes[b]? = some n.notes[b] := by simp [hlb]
        have hat := bcs_at (hboth a b (by omega) hlb)
        have hck : clOk n s w a b = (bothB n s w a b && (decide (x.drawing ≠ 0) && decide (x.drawing = n.notes[b].drawing) && decide (n.notes[b].letter < x.letter))) := by
          rw [clOk, hxo, hyo, decide_eq_true (by omega : a < b), Bool.true_and]
        generalize hy : n.notes[b] = y at *
        rw [hna, hnb] at hsb
        have hTR : (T ++ clRow n s w a b).length ≤ 500 := by rw [List.length_append]; omega
        have hsb2 : T ++ clRow n s w a (b + 1) = (T ++ clRow n s w a b) ++ (if clOk n s w a b = true then [(x.number, y.number)] else []) := by
          rw [hsb, ← List.append_assoc]
        clear hsb
        generalize T ++ clRow n s w a b = R at *
        have ha12 : (a : Int) < 12 := by omega
        have hb12 : (b : Int) < 12 := by omega
        have ha0 : a < 12 := by omega
        have hb0 : b < 12 := by omega
        have hk143 : a * 12 + b ≤ 143 := by omega
        cases hq : bothB n s w a b
        · rw [hq] at hck hat
          rw [hck, Bool.false_and, if_neg Bool.false_ne_true, List.append_nil] at hsb2
          have hs : True := trivial
          repeat' first | (with_reducible first | refine q01 ?_ | refine q04 ?_ | refine q11 ?_ | refine q12 ?_ | refine q14 ?_) | (refine DT_regionX (id := 21) (nt := 128) 12 [5, 6, 7, 8, 9] [0, 1, 2, 3, 6, 7, 8, 9, 10, 11, 12, 13, 14, 15, 16, 17, 23, 37, 45, 73, 82, 85, 86, 87, 88, 89, 118] [0, 1, 2, 3, 6, 7, 8, 9, 10, 11, 12, 13, 14, 15, 16, 17, 23, 37, 45, 73, 82, 118] mixed rfl (by kernel_rfl) ?_; simp -dsimp [hx, hy, hla, hlb, hwb, ha12, hb12, ha0, hb0, hat, hbl, hlen, hk143, hs]) | (with_reducible refine DT_regionE [0, 1, 2, 3, 6, 7, 8, 9, 10, 11, 12, 13, 14, 15, 16, 17, 23, 37, 45, 73, 82, 118] ?_; simp -dsimp [hx, hy, hla, hlb, hwb, ha12, hb12, ha0, hb0, hat, hbl, hlen, hk143, hs]) | (refine DT_cond rfl (fun h => ?_) (fun h => ?_) <;> (try simp only [nrm] at h) <;> (try exact Bool.noConfusion h))
          all_goals try simp -dsimp [hx, hy, hla, hlb, hwb, ha12, hb12, ha0, hb0, hat, hbl, hlen, hk143, hs]
          all_goals try clear hs
          all_goals exact At.round ⟨(b + 1, g2, nl2), by simp only; omega⟩ (by simp only; omega) (Weak.of_drop [3,7,13,14,15] 4 (by simp) (by simp) (by simp [hsb2]))
        · rw [hq, Bool.true_and] at hck
          rw [hq] at hat
          have hs : True := trivial
          repeat' first | (with_reducible first | refine q01 ?_ | refine q04 ?_ | refine q11 ?_ | refine q12 ?_ | refine q14 ?_ | refine And.intro (by omega) ?_) | (refine DT_regionX (id := 21) (nt := 128) 12 [5, 6, 7, 8, 9] [0, 1, 2, 3, 6, 7, 8, 9, 10, 11, 12, 13, 14, 15, 16, 17, 23, 37, 45, 73, 82, 85, 86, 87, 88, 89, 118] [0, 1, 2, 3, 6, 7, 8, 9, 10, 11, 12, 13, 14, 15, 16, 17, 23, 37, 45, 73, 82, 118] mixed rfl (by kernel_rfl) ?_; simp -dsimp [hx, hy, hla, hlb, hwb, ha12, hb12, ha0, hb0, hat, hbl, hlen, hk143, hs]) | (with_reducible refine DT_regionE [0, 1, 2, 3, 6, 7, 8, 9, 10, 11, 12, 13, 14, 15, 16, 17, 23, 37, 45, 73, 82, 118] ?_; simp -dsimp [hx, hy, hla, hlb, hwb, ha12, hb12, ha0, hb0, hat, hbl, hlen, hk143, hs]) | (refine DT_cond rfl (fun h => ?_) (fun h => ?_) <;> (try simp only [nrm] at h) <;> (try exact Bool.noConfusion h)) | (with_reducible refine GStop_split ?_ ?_ <;> intro h <;> have h0 := h <;> (try simp only [nrm] at h) <;> (try exact Bool.noConfusion h) <;> have h2 := h <;> (try simp at h2) <;> (replace hs := And.intro h0 (And.intro h (And.intro h2 hs))) <;> simp -dsimp [h0, h, h2, hx, hy, hla, hlb, hwb, ha12, hb12, ha0, hb0, hat, hbl, hlen, hk143, hs])
          all_goals try simp -dsimp [hx, hy, hla, hlb, hwb, ha12, hb12, ha0, hb0, hat, hbl, hlen, hk143, hs]
          all_goals try clear hs
          · have hc : clOk n s w a b = true := by rw [hck]; simp only [Bool.and_eq_true, decide_eq_true_eq]; exact ⟨⟨by omega, by omega⟩, by omega⟩
            rw [if_pos hc] at hsb2
            exact At.round ⟨(b + 1, g2 + 1, false), by simp only; omega⟩ (by simp only; omega) (Weak.of_drop [3,7,13,14,15] 4 (by simp) (by simp) (by simp [hsb2] <;> omega))
          all_goals
            have hc : clOk n s w a b = false := by rw [hck, ← Bool.not_eq_true]; simp only [Bool.and_eq_true, decide_eq_true_eq]; omega
            rw [hc, if_neg Bool.false_ne_true, List.append_nil] at hsb2
            exact At.round ⟨(b + 1, g2, nl2), by simp only; omega⟩ (by simp only; omega) (Weak.of_drop [3,7,13,14,15] 4 (by simp) (by simp) (by simp [hsb2] <;> omega))
      · obtain rfl : b = n.notes.length := by omega
        rw [← hsa]
        have hs : True := trivial
        repeat' first | (with_reducible first | refine q01 ?_ | refine q03 ?_ | refine q04 ?_ | refine q06 ?_ | refine q11 ?_ | refine q16 ?_) | (with_reducible refine DT_regionE [0, 1, 2, 3, 6, 7, 8, 9, 10, 11, 12, 13, 14, 15, 16, 17, 23, 37, 45, 73, 82, 118] ?_; simp -dsimp [hlb, hwa, hs]) | (refine DT_cond rfl (fun h => ?_) (fun h => ?_) <;> (try simp only [nrm] at h) <;> (try exact Bool.noConfusion h))
        all_goals try simp -dsimp [hlb, hwa, hs]
        all_goals try clear hs
        all_goals exact At.round ⟨(a + 1, g2, nl2), by simp only; omega⟩ (by simp only; omega) (Weak.of_drop [3,7,13,14] 4 (by simp) (by simp) (by simp))
    · obtain rfl : a = n.notes.length := by omega
      have hs : True := trivial
      repeat' first | (with_reducible first | refine q01 ?_ | refine q03 ?_ | refine q06 ?_ | refine q11 ?_ | refine q16 ?_ | refine q17 ?_) | (with_reducible refine At.fn_ret (by simp -dsimp [hla, hs]; exact rfl) ?_) | (with_reducible refine DT_regionE [0, 1, 2, 3, 6, 7, 8, 9, 10, 11, 12, 13, 14, 15, 16, 17, 23, 37, 45, 73, 82, 118] ?_; simp -dsimp [hla, hs]) | (refine DT_cond rfl (fun h => ?_) (fun h => ?_) <;> (try simp only [nrm] at h) <;> (try exact Bool.noConfusion h))
      all_goals try simp -dsimp [hla, hs]
      all_goals try clear hs
      all_goals simp [clashL]
end Go.Proofs
namespace Go.Proofs
open Go Go.Ab
set_option linter.unusedSimpArgs false
variable {G : Nat → Option (List IC)}
def clashR (n : Notes) (s : List Int) : List (Int × Int) := if askedE n s 1 = 0 then clashL n s [] else []
theorem rClash_c (n : Notes) (s : List Int) (hs : NSm n) (hsl : s.length < 1000) (objs : List DObj) : DCall Tryd.prog G 34 [notesv n, isv s] objs (fun rr objs' => rr = .tup [prv (clashR n s), iv (askedE n s 1)] ∧ objs' = objs) := by
  refine DCall.frame ?_ (by simp) (by simp) objs
  refine DCall_intro Tryd.func34 rfl Tryd.ntmps34 (by simp) rfl ?_
  try simp only [notesv, isv]
  have c1 := asked3_c (G := G) n s 1 hs hsl
  unfold clashR
  by_cases h0 : askedE n s 1 = 0
  · rw [h0] at c1
    have hnk := notes_ok (asked_ok h0).1
    have c2 := clash3_c (G := G) n s [] hnk.1 hnk.2.2.1 hnk.2.1 hsl (by simp)
    rw [if_pos h0]
    simp only [isv, iv, List.map_nil] at c1 c2
    have hs : True := trivial
    repeat' first | (with_reducible first | refine q01 ?_ | refine q11 ?_ | refine q14 ?_ | refine q17 ?_) | (with_reducible refine At.fn_ret (by simp -dsimp [hs]; exact rfl) ?_) | (refine CallE.pure (c1) ?_; try simp -dsimp [hs]) | (refine CallE.pure (c2) ?_; try simp -dsimp [hs]) | (with_reducible refine DT_regionE [0, 1, 2, 4, 5, 6, 11] ?_; simp -dsimp [hs]) | (refine DT_cond rfl (fun h => ?_) (fun h => ?_) <;> (try simp only [nrm] at h) <;> (try exact Bool.noConfusion h))
    all_goals try simp -dsimp [hs]
    all_goals try clear hs
    all_goals simp [h0]
  · rw [if_neg h0]
    simp only [isv, iv, List.map_nil] at c1
    have hs : True := trivial
    repeat' first | (with_reducible first | refine q01 ?_ | refine q02 ?_ | refine q11 ?_ | refine q17 ?_) | (with_reducible refine At.fn_ret (by simp -dsimp [h0, hs]; exact rfl) ?_) | (refine CallE.pure (c1) ?_; try simp -dsimp [h0, hs]) | (with_reducible refine DT_regionE [0, 1, 2, 4, 5, 6, 11] ?_; simp -dsimp [h0, hs]) | (refine DT_cond rfl (fun h => ?_) (fun h => ?_) <;> (try simp only [nrm] at h) <;> (try exact Bool.noConfusion h))
    all_goals try simp -dsimp [h0, hs]
    all_goals try clear hs
    all_goals simp [h0]
theorem samePairs_c (l : List (Int × Int)) (hl : l.length < 1000000) (objs : List DObj) : DCall Tryd.prog G 37 [prv l, prv l] objs (fun rr objs' => rr = bv true ∧ objs' = objs) := by
  refine DCall.frame ?_ (by simp) (by simp) objs
  refine DCall_intro Tryd.func37 rfl Tryd.ntmps37 (by simp) rfl ?_
  try simp only [iv]
  simp only [prv, bv]
  have hs : True := trivial
  repeat' first | (with_reducible first | refine q01 ?_ | refine q11 ?_ | refine q12 ?_ | refine q14 ?_) | (with_reducible refine DT_regionE [0, 1, 4, 5, 10, 14, 25] ?_; simp -dsimp [hs]) | (refine DT_cond rfl (fun h => ?_) (fun h => ?_) <;> (try simp only [nrm] at h) <;> (try exact Bool.noConfusion h))
  all_goals try simp -dsimp [hs]
  all_goals try clear hs
  refine DT_loop (ι := { k : Nat // k ≤ l.length }) (fun p => ⟨26, [(0, prv l), (1, prv l), (5, iv (p.1 : Int))], []⟩) (fun p => l.length - p.1) ⟨0, by simp⟩ (Weak.of_keep [0,1,5] (by simp)) ?_
  rintro ⟨k, hk⟩
  simp only [iv, prv]
  by_cases hlt : k < l.length
  · have hw : IntKind.i64.wrap ((k : Int) + 1) = ((k + 1 : Nat) : Int) := i64w (by omega) (by omega)
    generalize hx : l[k] = x
    obtain ⟨x1, x2⟩ := x
    have hs : True := trivial
    repeat' first | (with_reducible first | refine q01 ?_ | refine q04 ?_ | refine q11 ?_ | refine q12 ?_ | refine q14 ?_) | (refine DT_regionM (id := 6) (nt := 26) 9 [0, 1, 4, 5, 10, 14, 25] mixed rfl (by kernel_rfl) ?_; simp -dsimp [hx, hlt, hw, hs]) | (with_reducible refine DT_regionE [0, 1, 4, 5, 10, 14, 25] ?_; simp -dsimp [hx, hlt, hw, hs]) | (refine DT_cond rfl (fun h => ?_) (fun h => ?_) <;> (try simp only [nrm] at h) <;> (try exact Bool.noConfusion h))
    all_goals try simp -dsimp [hx, hlt, hw, hs]
    all_goals try clear hs
    exact At.round ⟨k + 1, by omega⟩ (by simp; omega) (Weak.of_keep [0,1,5] (by simp))
  · have hs : True := trivial
    repeat' first | (with_reducible first | refine q01 ?_ | refine q03 ?_ | refine q06 ?_ | refine q11 ?_ | refine q16 ?_ | refine q17 ?_) | (with_reducible refine At.fn_ret (by simp -dsimp [hlt, hs]; exact rfl) ?_) | (with_reducible refine DT_regionE [0, 1, 4, 5, 10, 14, 25] ?_; simp -dsimp [hlt, hs]) | (refine DT_cond rfl (fun h => ?_) (fun h => ?_) <;> (try simp only [nrm] at h) <;> (try exact Bool.noConfusion h))
    all_goals try simp -dsimp [hlt, hs]
    all_goals try clear hs
end Go.Proofs
