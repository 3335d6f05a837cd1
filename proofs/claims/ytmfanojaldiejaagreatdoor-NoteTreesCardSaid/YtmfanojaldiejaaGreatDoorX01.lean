/- Part 30 of the proofs: laws and walks that hold without conditions beyond those that each theorem names. -/
import Derived.Carry
import Derived.Test.YtmfanojaldiejaaGreatDoorB12
import Derived.Test.YtmfanojaldiejaaGreatDoorB13
import Derived.Test.YtmfanojaldiejaaGreatDoorB16
import Derived.Test.YtmfanojaldiejaaGreatDoorB17
import Derived.Test.YtmfanojaldiejaaGreatDoorB18
import Derived.Test.YtmfanojaldiejaaGreatDoorB19
import Derived.Test.YtmfanojaldiejaaGreatDoorB21
set_option linter.all false
set_option linter.deprecated false
namespace Go.Ab
open Go Go.ChangeShapes Go.RowKit
section
variable {H : Type} {enc : TypeId × Value → H} {P : Program} {w : World} {base : Nat} {spare : Nat → Bool} {held : Bool}
theorem trodAll_five {t0 t1 t2 t3 t4 : TypeId} {args : Array Value} {ds : List (DataW H)} {ps : List MemPlace} (h : DataW.TrodAll enc P w base spare held [t0, t1, t2, t3, t4] args.toList ds ps) :
    ∃ v0 v1 v2 v3 v4 d0 d1 d2 d3 d4 p0 p1 p2 p3 p4, args = #[v0, v1, v2, v3, v4] ∧ ds = [d0, d1, d2, d3, d4] ∧ ps = p0 ++ p1 ++ p2 ++ p3 ++ p4 ∧ DataW.Trod enc P w base spare held t0 v0 d0 p0 ∧ DataW.Trod enc P w base spare held t1 v1 d1 p1 ∧ DataW.Trod enc P w base spare held t2 v2 d2 p2 ∧ DataW.Trod enc P w base spare held t3 v3 d3 p3 ∧ DataW.Trod enc P w base spare held t4 v4 d4 p4 := by
  obtain ⟨v0, l0, d0, e0, p0, q0, hargs, rfl, rfl, k0, h⟩ := trodAll_cons h
  obtain ⟨v1, l1, d1, e1, p1, q1, rfl, rfl, rfl, k1, h⟩ := trodAll_cons h
  obtain ⟨v2, l2, d2, e2, p2, q2, rfl, rfl, rfl, k2, h⟩ := trodAll_cons h
  obtain ⟨v3, l3, d3, e3, p3, q3, rfl, rfl, rfl, k3, h⟩ := trodAll_cons h
  obtain ⟨v4, l4, d4, e4, p4, q4, rfl, rfl, rfl, k4, h⟩ := trodAll_cons h
  obtain ⟨rfl, rfl, rfl⟩ := trodAll_nil h
  exact ⟨v0, v1, v2, v3, v4, d0, d1, d2, d3, d4, p0, p1, p2, p3, p4, by cases args; simp_all, rfl, by simp, k0, k1, k2, k3, k4⟩
theorem trodAll_mk5 {t0 t1 t2 t3 t4 : TypeId} {v0 v1 v2 v3 v4 : Value} {d0 d1 d2 d3 d4 : DataW H} {p0 p1 p2 p3 p4 : List MemPlace} (h0 : DataW.Trod enc P w base spare held t0 v0 d0 p0) (h1 : DataW.Trod enc P w base spare held t1 v1 d1 p1)
    (h2 : DataW.Trod enc P w base spare held t2 v2 d2 p2) (h3 : DataW.Trod enc P w base spare held t3 v3 d3 p3) (h4 : DataW.Trod enc P w base spare held t4 v4 d4 p4) :
    DataW.TrodAll enc P w base spare held [t0, t1, t2, t3, t4] [v0, v1, v2, v3, v4] [d0, d1, d2, d3, d4] (p0 ++ (p1 ++ (p2 ++ (p3 ++ p4)))) := ⟨p0, p1 ++ (p2 ++ (p3 ++ p4)), h0, trodAll_mk4 h1 h2 h3 h4, rfl⟩
end
end Go.Ab
namespace Go.Proofs
open Go Go.Ab
theorem dep_spec {l : List Issue} (h : checkR l = 0) : ∃ dep : Int → Int, ∀ n ∈ nums l, 1 ≤ dep n ∧ dep n ≤ 6 ∧ ∀ c ∈ chI l n, c ∈ nums l ∧ dep c < dep n := by
  have hL : listedI l = true := by
    cases hL : listedI l
    · simp [checkR, hL] at h
    · rfl
  have h2 : ¬ mostL (depthsL l) > (depthsL l).length := fun hg => by simp [checkR, hL, hg] at h
  have h6 : ¬ mostL (depthsL l) > 6 := fun hg => by simp [checkR, hL, h2, hg] at h
  have hsc := hL
  simp only [listedI, Bool.and_eq_true] at hsc
  obtain ⟨ds, hds⟩ := Option.isSome_iff_exists.1 hsc.1.1.2
  obtain ⟨e, hlt, _, _, _⟩ := scan_all hds
  have hall := hsc.1.2
  rw [← e] at hall
  have hnd : ds.Nodup := hlt.imp fun h => Int.ne_of_lt h
  have hch : ∀ n ∈ ds, ∀ c ∈ chI l n, c ∈ ds := fun n _ c hc => by
    simp only [chI, List.mem_flatMap, List.mem_map] at hc
    obtain ⟨x, hx, y, hy, rfl⟩ := hc
    have := List.all_eq_true.1 (List.all_eq_true.1 hall x (List.mem_filter.1 hx).1) y hy
    simpa using this
  have e1 : ∀ n ∈ ds, Rr l (ds.length + 1) n ≤ ds.length := fun n hn => Int.not_lt.1 fun hg => h2 (by
    have := (most_lt (Rr l (ds.length + 1)) ds ds.length (by omega)).2 ⟨n, hn, hg⟩
    simpa [depthsL, ← e] using this)
  have e2 : ∀ n ∈ ds, Rr l (ds.length + 1) n ≤ 6 := fun n hn => Int.not_lt.1 fun hg => h6 (by
    have := (most_lt (Rr l (ds.length + 1)) ds 6 (by omega)).2 ⟨n, hn, hg⟩
    simpa [depthsL, ← e] using this)
  have h0 : DInv l ds ([], left0 ds) := by
    rw [left0_eq hnd]
    exact ⟨hnd, fun n h => h, by simp, by simp, fun n h h' => absurd h h'⟩
  obtain ⟨hi, _⟩ := depthN_inv hch ds.length _ h0
  change DInv l ds (depthsI l ds) at hi
  obtain ⟨d1, d2⟩ := depthsI_spec hnd hch
  have hz : (depthsI l ds).2.length = 0 := by
    refine Nat.eq_zero_of_not_pos fun hp => ?_
    obtain ⟨n, hn, hg⟩ := d1.1 hp
    have := e1 n hn; omega
  have hempty : ∀ n, n ∉ (depthsI l ds).2 := fun n => by rw [List.length_eq_zero_iff.1 hz]; simp
  refine ⟨mlook (depthsI l ds).1, fun n hn => ?_⟩
  rw [← e] at hn
  obtain ⟨a, b, c⟩ := hi.val n hn (hempty n)
  have hn1 := c (ds.length + 1) (by omega)
  refine ⟨a, by have := e2 n hn; omega, fun m hm => ?_⟩
  have hmd := hch n hn m hm
  obtain ⟨a', b', c'⟩ := hi.val m hmd (hempty m)
  have hm1 := c' ds.length (by omega)
  have hle := le_mx (f := Rr l ds.length) hm
  have hr : Rr l (ds.length + 1) n = 1 + mx (Rr l ds.length) (chI l n) := rfl
  exact ⟨by rw [← e]; exact hmd, by omega⟩
end Go.Proofs
namespace Go.Proofs
open Go Go.Ab
theorem find_some {l : List Issue} {d lt : Int} {y : Issue} (h : findI l d lt = some y) : y ∈ l ∧ y.drawing = d ∧ y.letter = lt := by
  have h1 := List.find?_some h
  have h2 := List.mem_of_find?_eq_some h
  simp only [Bool.and_eq_true, beq_iff_eq] at h1
  exact ⟨h2, h1.1, h1.2⟩
theorem find_iff (l : List Issue) (d lt : Int) : (findI l d lt).isSome = true ↔ ∃ x ∈ l, x.drawing = d ∧ x.letter = lt := by
  simp [findI, List.find?_isSome]
theorem scan_letters : ∀ (r : List Issue) (p : Option Issue) (ds : List Int), scanI p r = some ds → ∀ x ∈ r, x.letter = 1 ∨ ∃ y, (p = some y ∨ y ∈ r) ∧ y.drawing = x.drawing ∧ y.letter + 1 = x.letter
  | [], _, _, _, x, hx => by cases hx
  | z :: r, p, ds, h, x, hx => by
    have hs : (scanI p (z :: r)).isSome = true := by rw [h]; rfl
    obtain ⟨ds', h1, _, _⟩ := scan_step h
    rcases List.mem_cons.1 hx with rfl | hx
    · cases p with
      | none => exact .inl ((scan_iff0 x r).1 hs).1.2
      | some y =>
        rcases ((scan_iff1 y x r).1 hs).1.2 with ⟨a, b, _⟩ | ⟨_, b⟩
        · exact .inr ⟨y, .inl rfl, a, b⟩
        · exact .inl b
    · rcases scan_letters r (some z) ds' h1 x hx with h2 | ⟨y, h2, h3, h4⟩
      · exact .inl h2
      · refine .inr ⟨y, .inr ?_, h3, h4⟩
        rcases h2 with h2 | h2
        · cases h2; simp
        · simp [h2]
theorem all_letters {l : List Issue} (hs : scanI none l = some (nums l)) : ∀ (k : Nat) (x : Issue), x ∈ l → x.letter = k + 1 → ∀ j : Int, 1 ≤ j → j ≤ k + 1 → ∃ y ∈ l, y.drawing = x.drawing ∧ y.letter = j
  | 0, x, hx, hk, j, h1, h2 => ⟨x, hx, rfl, by omega⟩
  | k + 1, x, hx, hk, j, h1, h2 => by
    by_cases hj : j = k + 1 + 1
    · exact ⟨x, hx, rfl, by omega⟩
    · rcases scan_letters l none _ hs x hx with h | ⟨y, hy, h3, h4⟩
      · omega
      · rcases hy with hy | hy
        · cases hy
        · obtain ⟨z, hz, h5, h6⟩ := all_letters hs k y hy (by omega) j h1 (by omega)
          exact ⟨z, hz, by omega, h6⟩
theorem lastOf_fold (d : Int) : ∀ (l : List Issue) (a : Int), a ≤ l.foldl (fun n x => if x.drawing = d then max n x.letter else n) a ∧ (∀ x ∈ l, x.drawing = d → x.letter ≤ l.foldl (fun n x => if x.drawing = d then max n x.letter else n) a) ∧
    (l.foldl (fun n x => if x.drawing = d then max n x.letter else n) a = a ∨ ∃ x ∈ l, x.drawing = d ∧ x.letter = l.foldl (fun n x => if x.drawing = d then max n x.letter else n) a)
  | [], a => by simp
  | y :: l, a => by
    obtain ⟨h1, h2, h3⟩ := lastOf_fold d l (if y.drawing = d then max a y.letter else a)
    simp only [List.foldl_cons]
    have h0 : a ≤ (if y.drawing = d then max a y.letter else a) := by split <;> omega
    refine ⟨by omega, fun x hx hd => ?_, ?_⟩
    · rcases List.mem_cons.1 hx with rfl | hx
      · rw [if_pos hd] at h1 ⊢; omega
      · exact h2 x hx hd
    · rcases h3 with h3 | ⟨x, hx, hd, he⟩
      · by_cases hy : y.drawing = d
        · rw [if_pos hy] at h3 ⊢
          by_cases hm : a ≤ y.letter
          · exact .inr ⟨y, by simp, hy, by omega⟩
          · exact .inl (by omega)
        · rw [if_neg hy] at h3 ⊢
          exact .inl h3
      · exact .inr ⟨x, by simp [hx], hd, he⟩
theorem find_letter {l : List Issue} (h : checkR l = 0) (d lt : Int) : (findI l d lt).isSome = true ↔ 1 ≤ lt ∧ lt ≤ lastOf l d := by
  have hs := listed_scan (check_listed h)
  obtain ⟨_, _, _, hok, _⟩ := scan_all hs
  obtain ⟨h1, h2, h3⟩ := lastOf_fold d l 0
  have hlet : ∀ x ∈ l, 1 ≤ x.letter := fun x hx => by
    have := hok x hx
    simp only [issueOk, Bool.and_assoc] at this
    rw [← Bool.and_assoc, Bool.and_eq_true] at this
    have := (ck12_iff x).1 this.1; omega
  rw [find_iff]
  constructor
  · rintro ⟨x, hx, rfl, rfl⟩
    exact ⟨hlet x hx, h2 x hx rfl⟩
  · rintro ⟨a, b⟩
    rcases h3 with h3 | ⟨x, hx, hd, he⟩
    · simp only [lastOf] at b; omega
    · have hx1 := hlet x hx
      obtain ⟨y, hy, h5, h6⟩ := all_letters hs (x.letter - 1).toNat x hx (by omega) lt a (by simp only [lastOf] at b; omega)
      exact ⟨y, hy, by omega, h6⟩
theorem take_spec {l : List Issue} {lets : List Int} {d : Int} (h : checkR l = 0) (hl : lettersI l lets = true) (hd : d ∈ nums l) : takeI l lets d ∈ l ∧ (takeI l lets d).drawing = d ∧ ∃ (k : Nat) (lt : Int), (nums l)[k]? = some d ∧ lets[k]? = some lt ∧ findI l d lt = some (takeI l lets d) := by
  simp only [lettersI, Bool.and_eq_true, decide_eq_true_eq] at hl
  obtain ⟨h1, h2⟩ := hl
  obtain ⟨hlt, _⟩ := check_nums h
  obtain ⟨k, hk⟩ := List.mem_iff_getElem?.1 hd
  have hnd : (nums l).Nodup := hlt.imp fun h => Int.ne_of_lt h
  have hkl := lt_of_getElem? hk
  have hy : lets[k]? = some lets[k] := by simp [h1, hkl]
  have hz : ((nums l).zip lets)[k]? = some (d, lets[k]) := by
    rw [List.getElem?_zip_eq_some]; exact ⟨hk, hy⟩
  have hok := List.all_eq_true.1 h2 _ (List.mem_of_getElem? hz)
  simp only [letterOk, Bool.and_eq_true, decide_eq_true_eq] at hok
  have hf := (find_letter h d lets[k]).2 hok
  obtain ⟨y, hy'⟩ := Option.isSome_iff_exists.1 hf
  have ht : takeI l lets d = y := by
    simp only [takeI, idx_at hnd hk, Int.toNat_natCast, hy, Option.getD_some, hy']
  obtain ⟨a, b, _⟩ := find_some hy'
  rw [ht]
  exact ⟨a, b, k, lets[k], hk, hy, hy'⟩
theorem take_items {l : List Issue} {lets : List Int} {d : Int} (h : checkR l = 0) (hl : lettersI l lets = true) (hd : d ∈ nums l) : ∀ y ∈ (takeI l lets d).items, y.drawing ∈ chI l d := by
  obtain ⟨h1, h2, _⟩ := take_spec h hl hd
  intro y hy
  simp only [chI, List.mem_flatMap, List.mem_map, segI, List.mem_filter, decide_eq_true_eq]
  exact ⟨_, ⟨h1, h2⟩, y, hy, rfl⟩
end Go.Proofs
namespace Go.Proofs
open Go Go.Ab
variable {G : Nat → Option (List IC)}
def leavesF (tk : Int → Issue) : Nat → Int → Int → List (Int × Int)
  | 0, _, _ => []
  | k + 1, d, m => if 1 < (tk d).kind then [(d, m)] else (tk d).items.flatMap fun y => leavesF tk k y.drawing (IntKind.i64.wrap (m * y.count))
end Go.Proofs
namespace Go.Ab
open Go
def zIs : Issue := ⟨0, 0, 0, [], []⟩
def mlookS (m : List (Int × Issue)) (n : Int) : Issue := match m with
  | [] => zIs
  | p :: r => if p.1 = n then p.2 else mlookS r n
def mputS (n : Int) (v : Issue) : List (Int × Issue) → List (Int × Issue)
  | [] => [(n, v)]
  | p :: r => if p.1 = n then (n, v) :: r else p :: mputS n v r
def encMS (m : List (Int × Issue)) : List (List Value × List DC) := m.map fun p => (kI p.1, (encIssue p.2).map .im)
def encMSI (m : List (Int × Issue)) : List (List Value × List IC) := m.map fun p => (kI p.1, encIssue p.2)
theorem encMS_cons (p : Int × Issue) (r : List (Int × Issue)) : encMS (p :: r) = (kI p.1, (encIssue p.2).map .im) :: encMS r := rfl
@[simp] theorem mget_MS (m : List (Int × Issue)) (n : Int) : mget [.int .i64 n] (encMS m) [.im (.raw (.int .i64 0)), .im (.raw (.int .i64 0)), .im (.raw (.int .u8 0)), .im (.sl []), .im (.sl [])] = (encIssue (mlookS m n)).map .im := by
  induction m with
  | nil => rfl
  | cons p r ih =>
    rw [encMS_cons]
    simp only [mget, mfind, mlookS, beqs_k, decide_eq_true_eq] at ih ⊢
    split
    · rfl
    · exact ih
theorem mset_MS' (m : List (Int × Issue)) (n : Int) (v : Issue) : mset [.int .i64 n] ((encIssue v).map .im) (encMS m) = encMS (mputS n v m) := by
  induction m with
  | nil => rfl
  | cons p r ih =>
    rw [encMS_cons]
    simp only [mset, mputS, beqs_k, decide_eq_true_eq] at ih ⊢
    split
    · rfl
    · rw [ih]; rfl
@[simp] theorem mset_MS (m : List (Int × Issue)) (n a b k : Int) (i : List Itm) (d : List Dim) : mset [.int .i64 n] [.im (.raw (.int .i64 a)), .im (.raw (.int .i64 b)), .im (.raw (.int .u8 k)), .im (.sl (i.map encItem)), .im (.sl (d.map encDim))] (encMS m) = encMS (mputS n ⟨a, b, k, i, d⟩ m) := mset_MS' m n ⟨a, b, k, i, d⟩
@[simp] theorem encMS_len (m : List (Int × Issue)) : (encMS m).length = m.length := by simp [encMS]
@[simp] theorem imE_MSI (m : List (Int × Issue)) : imE (encMSI m) = encMS m := by simp [imE, encMSI, encMS]
@[simp] theorem mapO_MS (k n : Nat) (objs : List DObj) (m : List (Int × Issue)) : mapO (fun x : List Value × List DC => (mapO (frz (k + 1) n objs) x.2).map fun l => (x.1, l)) (encMS m) = some (encMSI m) := by
  induction m with
  | nil => rfl
  | cons p r ih =>
    rw [encMS_cons, mapO, ih, mapO_im]; rfl
@[simp] theorem map_fz_MS (n : Nat) (objs : List DObj) (m : List (Int × Issue)) : ((encMS m).map fun x => (x.1, x.2.map (fz n objs))) = encMS m := by
  simp [encMS, fz, DC.lt]
theorem mputS_new {n : Int} {v : Issue} : ∀ {m : List (Int × Issue)}, n ∉ m.map (·.1) → mputS n v m = m ++ [(n, v)]
  | [], _ => rfl
  | p :: r, h => by
    rw [List.map_cons, List.mem_cons, not_or] at h
    rw [mputS, if_neg (Ne.symm h.1), mputS_new h.2]; rfl
theorem mlookS_map (f : Int → Issue) : ∀ (ns : List Int) (n : Int), mlookS (ns.map fun d => (d, f d)) n = if n ∈ ns then f n else zIs
  | [], n => by simp [mlookS]
  | d :: ns, n => by
    rw [List.map_cons, mlookS, mlookS_map f ns n]
    by_cases h : d = n
    · subst h; simp
    · rw [if_neg h]; simp [Ne.symm h]
@[simp] theorem rn_M (e : Nat → Nat) (m : List (Int × Int)) : ((encM m).map fun x => (x.1, rnL e x.2)) = encM m := by
  simp [encM, rnL, rnC]
@[simp] theorem rn_MS (e : Nat → Nat) (m : List (Int × Issue)) : ((encMS m).map fun x => (x.1, rnL e x.2)) = encMS m := by
  simp only [encMS, List.map_map]
  exact List.map_congr_left fun x _ => by simp only [Function.comp, rnL_im]
@[simp] theorem rn_S (e : Nat → Nat) (m : List Int) : ((encS m).map fun x => (x.1, rnL e x.2)) = encS m := by
  simp [encS, rnL, rnC]
end Go.Ab
namespace Go.Ab
open Go
@[simp] theorem imE_MSI' (m : List (Int × Issue)) : (encMSI m).map (fun x => (x.1, x.2.map DC.im)) = encMS m := imE_MSI m
@[simp] theorem imE_MI' (m : List (Int × Int)) : (encMI m).map (fun x => (x.1, x.2.map DC.im)) = encM m := imE_MI m
@[simp] theorem imE_SI' (m : List Int) : (encSI m).map (fun x => (x.1, x.2.map DC.im)) = encS m := imE_SI m
end Go.Ab
namespace Go.Proofs
open Go Go.Ab
variable {G : Nat → Option (List IC)}
def tkM (l : List Issue) (lets : List Int) : List (Int × Issue) := (nums l).map fun d => (d, takeI l lets d)
theorem zip_bad {l : List Issue} {lets : List Int} {k : Nat} (h : checkR l = 0) (hk : k < (nums l).length) (hk2 : k < lets.length) (hf : (findI l (nums l)[k] lets[k]).isSome = false) : lettersI l lets = false := by
  have hn : ¬ letterOk l ((nums l)[k], lets[k]) = true := fun hok => by
    simp only [letterOk, Bool.and_eq_true, decide_eq_true_eq] at hok
    rw [(find_letter h _ _).2 hok] at hf; cases hf
  simp only [lettersI, Bool.and_eq_false_iff]
  refine .inr ?_
  rw [← Bool.not_eq_true, List.all_eq_true]
  intro hall
  refine hn (hall _ (List.mem_iff_getElem?.2 ⟨k, ?_⟩))
  rw [List.getElem?_zip_eq_some]; exact ⟨by simp [hk], by simp [hk2]⟩
theorem zip_good {l : List Issue} {lets : List Int} (h : checkR l = 0) (he : lets.length = (nums l).length) (hall : ∀ (k : Nat) (h1 : k < (nums l).length) (h2 : k < lets.length), (findI l (nums l)[k] lets[k]).isSome = true) : lettersI l lets = true := by
  simp only [lettersI, Bool.and_eq_true, decide_eq_true_eq, List.all_eq_true]
  refine ⟨he, fun p hp => ?_⟩
  obtain ⟨k, hk⟩ := List.mem_iff_getElem?.1 hp
  rw [List.getElem?_zip_eq_some] at hk
  obtain ⟨h1, e1⟩ := List.getElem?_eq_some_iff.1 hk.1
  obtain ⟨h2, e2⟩ := List.getElem?_eq_some_iff.1 hk.2
  have := (find_letter h _ _).1 (hall k h1 h2)
  rw [e1, e2] at this
  simp only [letterOk, Bool.and_eq_true, decide_eq_true_eq]; exact this
theorem take_at {l : List Issue} {lets : List Int} {k : Nat} (hnd : (nums l).Nodup) (hk : k < (nums l).length) (hk2 : k < lets.length) : takeI l lets (nums l)[k] = (findI l (nums l)[k] lets[k]).getD zIssue := by
  have h1 : (nums l)[k]? = some (nums l)[k] := by simp [hk]
  have h2 : lets[k]? = some lets[k] := by simp [hk2]
  simp only [takeI, idx_at hnd h1, Int.toNat_natCast, h2, Option.getD_some]
def takenE (l : List Issue) (lets : List Int) (d : Int) : Int := if checkR l ≠ 0 then checkR l else if lettersI l lets = false then 22 else if d ∈ nums l then 0 else 6
def takenR (l : List Issue) (lets : List Int) (d : Int) : List DV := if takenE l lets d = 0 then [.one (.im (bookI l (nums l))), .one (.im (.mp [.int .i64] (encMSI (tkM l lets)))), iv 0] else [.one (.im (.raw (.pointer none))), .one (.im (.raw (.map none))), iv (takenE l lets d)]
theorem takenR_im (l : List Issue) (lets : List Int) (d : Int) : ∀ x ∈ takenR l lets d, ImV x := by unfold takenR; split <;> simp [bookI]
set_option maxHeartbeats 1000000 in
theorem sTaken_c (l : List Issue) (lets : List Int) (d : Int) (hG : sheetG G) (hs : SmallR l) (hll : lets.length < 1000000) (objs : List DObj) : DCall Tryz.prog G 78 [regv l, isv lets, iv d] objs (fun rr objs' => rr = .tup (takenR l lets d) ∧ objs' = objs) := by
  refine DCall.frame ?_ (by simp) (by simpa using takenR_im l lets d) objs
  refine DCall_intro Tryz.func78 rfl Tryz.ntmps78 (by simp) rfl ?_
  simp only [regv, isv, iv]
  have c1 := open2_c l hG hs
  by_cases h0 : checkR l = 0
  · simp only [bookR, h0, if_true] at c1
    have hnd : (nums l).Nodup := (check_nums h0).1.imp fun h => Int.ne_of_lt h
    have hnl : (nums l).length ≤ l.length := numsTo_length l l.length
    have hl80 := hs.1
    have hsort := check_sorted h0
    by_cases he : lets.length = (nums l).length
    · have he' : (lets.length : Int) = ((nums l).length : Int) := by omega
      simp only [bookI] at c1
      have hs : True := trivial
      repeat' first | (with_reducible first | refine q01 ?_ | refine q11 ?_ | refine q12 ?_ | refine q14 ?_) | (refine CallE.pure (c1) ?_; try simp -dsimp [he', hs]) | (with_reducible refine DT_regionE [0,1,2,3,6,7,8,9,10,11,12,13,14,21,30,33,34,35,55,64] ?_; simp -dsimp [he', hs]) | (refine DT_cond rfl (fun h => ?_) (fun h => ?_) <;> (try simp only [nrm] at h) <;> (try exact Bool.noConfusion h))
      all_goals try simp -dsimp [he', hs]
      all_goals try clear hs
      refine DT_loop (ι := { k : Nat // k ≤ lets.length ∧ ∀ (i : Nat) (h1 : i < (nums l).length) (h2 : i < lets.length), i < k → (findI l (nums l)[i] lets[i]).isSome = true }) (fun p => ⟨67, [(1, isv lets), (2, iv d), (6, .one (.im (.raw (.pointer none)))), (7, .one (.im (.raw (.map none)))), (8, iv 0), (9, .one (.im (bookI l (nums l)))), (11, .one (.map 1)), (33, iv (lets.length : Int)), (34, iv (p.1 : Int))], [.row [.im (.sl (l.map encIssue))], .map [.int .i64] (encMS (((nums l).take p.1).map fun d => (d, takeI l lets d)))]⟩) (fun p => lets.length - p.1) ⟨0, by simp⟩ (Weak.of_keep [1,2,6,7,8,9,11,33,34] (by simp [bookI, encMS]; omega)) ?_
      rintro ⟨k, hk, hall⟩
      simp only [iv, isv]
      by_cases hlt : k < lets.length
      · have hkn : k < (nums l).length := by omega
        have hx : (nums l)[k]? = some (nums l)[k] := by simp [hkn]
        have hy : lets[k]? = some lets[k] := by simp [hlt]
        have hw : IntKind.i64.wrap ((k : Int) + 1) = ((k + 1 : Nat) : Int) := i64w (by omega) (by omega)
        have c2 := bfind_c (G := G) l (nums l) (nums l)[k] lets[k] hsort (by omega)
        have hta := take_at hnd hkn hlt
        cases hf : findI l (nums l)[k] lets[k] with
        | none =>
          have hE : takenE l lets d = 22 := by simp [takenE, h0, zip_bad h0 hkn hlt (by rw [hf]; rfl)]
          simp only [hf, refv, bookI, Option.isSome_none, Option.getD_none] at c2
          simp only [bookI]
          have hs : True := trivial
          repeat' first | (with_reducible first | refine q01 ?_ | refine q02 ?_ | refine q05 ?_ | refine q11 ?_ | refine q12 ?_ | refine q14 ?_ | refine q17 ?_) | (with_reducible refine At.fn_ret (by simp -dsimp [hx, hy, hlt, hkn, hw, hs]; exact rfl) ?_) | (refine QCall_pure (c2) ?_; try simp -dsimp [hx, hy, hlt, hkn, hw, hs]) | (refine DT_regionX (id := 10) (nt := 67) 18 [16] [0,1,2,3,6,7,8,9,10,11,12,13,14,21,30,33,34,35,37,38,39,40,41,42,43,44,45,46,47,48,49,50,51,52,55,64] [0,1,2,3,6,7,8,9,10,11,12,13,14,21,30,33,34,35,55,64] mixed rfl (by kernel_rfl) ?_; simp -dsimp [hx, hy, hlt, hkn, hw, hs]) | (with_reducible refine DT_regionE [0,1,2,3,6,7,8,9,10,11,12,13,14,21,30,33,34,35,55,64] ?_; simp -dsimp [hx, hy, hlt, hkn, hw, hs]) | (refine DT_cond rfl (fun h => ?_) (fun h => ?_) <;> (try simp only [nrm] at h) <;> (try exact Bool.noConfusion h))
          all_goals try simp -dsimp [hx, hy, hlt, hkn, hw, hs]
          all_goals try clear hs
          all_goals simp [takenR, hE]
        | some y =>
          rw [hf, Option.getD_some] at hta
          obtain ⟨hym, hyd, _⟩ := find_some hf
          simp only [hf, refv, bookI, Option.isSome_some, Option.getD_some] at c2
          simp only [bookI]
          have hmp : mputS (nums l)[k] y (((nums l).take k).map fun d => (d, takeI l lets d)) = (((nums l).take (k + 1)).map fun d => (d, takeI l lets d)) := by
            rw [mputS_new, List.take_succ_eq_append_getElem hkn, List.map_append, List.map_singleton, hta]
            rw [List.map_map]
            intro hm
            obtain ⟨z, hz, e⟩ := List.mem_map.1 hm
            simp only [Function.comp] at e
            subst e
            obtain ⟨i, hi, e⟩ := List.mem_take_iff_getElem.1 hz
            have := (List.getElem_inj hnd).1 e; omega
          rw [← hyd] at hmp
          have hmp' : mputS y.drawing ⟨y.drawing, y.letter, y.kind, y.items, y.dims⟩ (((nums l).take k).map fun d => (d, takeI l lets d)) = (((nums l).take (k + 1)).map fun d => (d, takeI l lets d)) := hmp
          simp only [List.map_take] at hmp'
          have hfin : ∀ (i : Nat) (h1 : i < (nums l).length) (h2 : i < lets.length), i < k + 1 → (findI l (nums l)[i] lets[i]).isSome = true := fun i h1 h2 hi => by
            by_cases e : i = k
            · subst e; rw [hf]; rfl
            · exact hall i h1 h2 (by omega)
          have hs : True := trivial
          repeat' first | (with_reducible first | refine q01 ?_ | refine q04 ?_ | refine q11 ?_ | refine q12 ?_ | refine q14 ?_) | (refine QCall_pure (c2) ?_; try simp -dsimp [hx, hy, hlt, hkn, hw, hs]) | (refine DT_regionX (id := 10) (nt := 67) 18 [16] [0,1,2,3,6,7,8,9,10,11,12,13,14,21,30,33,34,35,37,38,39,40,41,42,43,44,45,46,47,48,49,50,51,52,55,64] [0,1,2,3,6,7,8,9,10,11,12,13,14,21,30,33,34,35,55,64] mixed rfl (by kernel_rfl) ?_; simp -dsimp [hx, hy, hlt, hkn, hw, hs]) | (with_reducible refine DT_regionE [0,1,2,3,6,7,8,9,10,11,12,13,14,21,30,33,34,35,55,64] ?_; simp -dsimp [hx, hy, hlt, hkn, hw, hs]) | (refine DT_cond rfl (fun h => ?_) (fun h => ?_) <;> (try simp only [nrm] at h) <;> (try exact Bool.noConfusion h))
          all_goals try simp -dsimp [hx, hy, hlt, hkn, hw, hs]
          all_goals try clear hs
          exact At.round ⟨k + 1, by omega, hfin⟩ (by simp; omega) (Weak.of_drop [1,2,6,7,8,9,11,33,34] 2 (by simp) (by simp) (by simp [bookI, hmp']))
      · have hlet := zip_good h0 he fun i h1 h2 => hall i h1 h2 (by omega)
        have htk : (nums l).take k = nums l := List.take_of_length_le (by omega)
        have c3 := has_c (G := G) l (nums l) d ((check_nums h0).1.imp fun h => Int.le_of_lt h) (by omega)
        have hE : takenE l lets d = if d ∈ nums l then 0 else 6 := by simp [takenE, h0, hlet]
        simp only [bookI] at c3
        rw [htk]
        by_cases hd : d ∈ nums l
        · rw [if_pos hd] at hE
          simp only [hd, decide_true] at c3
          simp only [bookI]
          have hs : True := trivial
          repeat' first | (with_reducible first | refine q01 ?_ | refine q03 ?_ | refine q06 ?_ | refine q11 ?_ | refine q14 ?_ | refine q16 ?_ | refine q17 ?_) | (with_reducible refine At.fn_ret (by simp -dsimp [hlt, hs]; exact rfl) ?_) | (refine CallE.pure (c3) ?_; try simp -dsimp [hlt, hs]) | (with_reducible refine DT_regionE [0,1,2,3,6,7,8,9,10,11,12,13,14,21,30,33,34,35,55,64] ?_; simp -dsimp [hlt, hs]) | (refine DT_cond rfl (fun h => ?_) (fun h => ?_) <;> (try simp only [nrm] at h) <;> (try exact Bool.noConfusion h))
          all_goals try simp -dsimp [hlt, hs]
          all_goals try clear hs
          simp [takenR, hE, tkM, bookI]
        · rw [if_neg hd] at hE
          simp only [hd, decide_false] at c3
          simp only [bookI]
          have hs : True := trivial
          repeat' first | (with_reducible first | refine q01 ?_ | refine q02 ?_ | refine q03 ?_ | refine q06 ?_ | refine q11 ?_ | refine q16 ?_ | refine q17 ?_) | (with_reducible refine At.fn_ret (by simp -dsimp [hlt, hs]; exact rfl) ?_) | (refine CallE.pure (c3) ?_; try simp -dsimp [hlt, hs]) | (with_reducible refine DT_regionE [0,1,2,3,6,7,8,9,10,11,12,13,14,21,30,33,34,35,55,64] ?_; simp -dsimp [hlt, hs]) | (refine DT_cond rfl (fun h => ?_) (fun h => ?_) <;> (try simp only [nrm] at h) <;> (try exact Bool.noConfusion h))
          all_goals try simp -dsimp [hlt, hs]
          all_goals try clear hs
          simp [takenR, hE]
    · have he' : ¬ (lets.length : Int) = ((nums l).length : Int) := by omega
      have hE : takenE l lets d = 22 := by
        have : lettersI l lets = false := by simp [lettersI, he]
        simp [takenE, h0, this]
      simp only [bookI] at c1
      have hs : True := trivial
      repeat' first | (with_reducible first | refine q01 ?_ | refine q02 ?_ | refine q11 ?_ | refine q14 ?_ | refine q17 ?_) | (with_reducible refine At.fn_ret (by simp -dsimp [he', hs]; exact rfl) ?_) | (refine CallE.pure (c1) ?_; try simp -dsimp [he', hs]) | (with_reducible refine DT_regionE [0,1,2,3,6,7,8,9,10,11,12,13,14,21,30,33,34,35,55,64] ?_; simp -dsimp [he', hs]) | (refine DT_cond rfl (fun h => ?_) (fun h => ?_) <;> (try simp only [nrm] at h) <;> (try exact Bool.noConfusion h))
      all_goals try simp -dsimp [he', hs]
      all_goals try clear hs
      simp [takenR, hE]
  · have hE : takenE l lets d = checkR l := by simp [takenE, h0]
    simp only [bookR, h0, if_false] at c1
    have hs : True := trivial
    repeat' first | (with_reducible first | refine q01 ?_ | refine q02 ?_ | refine q11 ?_ | refine q17 ?_) | (with_reducible refine At.fn_ret (by simp -dsimp [h0, hs]; exact rfl) ?_) | (refine CallE.pure (c1) ?_; try simp -dsimp [h0, hs]) | (with_reducible refine DT_regionE [0,1,2,3,6,7,8,9,10,11,12,13,14,21,30,33,34,35,55,64] ?_; simp -dsimp [h0, hs]) | (refine DT_cond rfl (fun h => ?_) (fun h => ?_) <;> (try simp only [nrm] at h) <;> (try exact Bool.noConfusion h))
    all_goals try simp -dsimp [h0, hs]
    all_goals try clear hs
    simp [takenR, hE, h0]
end Go.Proofs
namespace Go.Proofs
open Go Go.Ab
variable {G : Nat → Option (List IC)}
def addM (m : List (Int × Int)) (lv : List (Int × Int)) : List (Int × Int) := lv.foldl (fun m p => mput p.1 (IntKind.i64.wrap (mlook m p.1 + p.2)) m) m
def expO (by' : List (Int × Issue)) (cnt : List (Int × Int)) : List DObj := [.row [.im (.mp [.int .i64] (encMSI by'))], .map [.int .i64] (encM cnt), .row [.map 1], .row [.fn (.func 79) [.ptr 0 0, .ptr 2 0, .ptr 3 0]]]
set_option maxHeartbeats 2000000 in
theorem explode1_c (l : List Issue) (lets : List Int) (h0 : checkR l = 0) (hlet : lettersI l lets = true) (dep : Int → Int) (hdep : ∀ n ∈ nums l, 1 ≤ dep n ∧ dep n ≤ 6 ∧ ∀ c ∈ chI l n, c ∈ nums l ∧ dep c < dep n) :
    ∀ (k : Nat) (d m : Int) (cnt : List (Int × Int)), d ∈ nums l → dep d ≤ k →
      DCall Tryz.prog G 79 [iv d, iv m, .one (.ptr 0 0), .one (.ptr 2 0), .one (.ptr 3 0)] (expO (tkM l lets) cnt)
        (fun r o => r = .tup [] ∧ o = expO (tkM l lets) (addM cnt (leavesF (takeI l lets) k d m))) := by
  intro k
  induction k with
  | zero => intro d m C hd hk; have := (hdep d hd).1; omega
  | succ k ih =>
    intro d m cnt hd hk
    have hti := take_items h0 hlet hd
    obtain ⟨htm, _, _⟩ := take_spec h0 hlet hd
    have htok := (scan_all (listed_scan (check_listed h0))).2.2.2.1 _ htm
    have hsm := issueOk_small htok
    have hkd : (takeI l lets d).kind = 1 ∨ (2 ≤ (takeI l lets d).kind ∧ (takeI l lets d).items.length = 0) := by
      simp only [issueOk, Bool.and_assoc] at htok
      rw [← Bool.and_assoc, Bool.and_eq_true] at htok
      have := (ck12_iff _).1 htok.1; omega
    have hch := (hdep d hd).2.2
    have hE : leavesF (takeI l lets) (k + 1) d m = if 1 < (takeI l lets d).kind then [(d, m)] else (takeI l lets d).items.flatMap fun y => leavesF (takeI l lets) k y.drawing (IntKind.i64.wrap (m * y.count)) := rfl
    have hlook : mlookS (tkM l lets) d = takeI l lets d := by rw [tkM, mlookS_map, if_pos hd]
    generalize takeI l lets d = x at *
    refine DCall.drop ?_
    refine DCall_intro Tryz.func79 rfl Tryz.ntmps79 (by simp) rfl ?_
    simp only [expO, iv]
    by_cases hkind : x.kind = 1
    · rw [if_neg (by omega)] at hE
      have hs : True := trivial
      repeat' first | (with_reducible first | refine q01 ?_ | refine q11 ?_ | refine q12 ?_ | refine q14 ?_) | (with_reducible refine DT_regionE [0,1,2,3,4,7,9,15,22,23,24,25] ?_; simp -dsimp [hlook, hkind, hs]) | (refine DT_cond rfl (fun h => ?_) (fun h => ?_) <;> (try simp only [nrm] at h) <;> (try exact Bool.noConfusion h))
      all_goals try simp -dsimp [hlook, hkind, hs]
      all_goals try clear hs
      refine DT_loop (ι := { p : Nat × List (Int × Int) // p.1 ≤ x.items.length ∧ addM cnt (x.items.flatMap fun y => leavesF (takeI l lets) k y.drawing (IntKind.i64.wrap (m * y.count))) = addM p.2 ((x.items.drop p.1).flatMap fun y => leavesF (takeI l lets) k y.drawing (IntKind.i64.wrap (m * y.count))) }) (fun p => ⟨37, [(1, iv m), (2, .one (.ptr 0 0)), (3, .one (.ptr 2 0)), (4, .one (.ptr 3 0)), (22, .one (.im (.sl (x.items.map encItem)))), (23, iv (x.items.length : Int)), (24, iv (p.1.1 : Int))], expO (tkM l lets) p.1.2⟩) (fun p => x.items.length - p.1.1) ⟨(0, cnt), by simp⟩ (Weak.of_drop [1,2,3,4,22,23,24] 4 (by simp) (by simp) (by simp [expO])) ?_
      rintro ⟨⟨u, cnt'⟩, hu, hadd⟩
      simp only at hu hadd
      simp only [iv, expO]
      by_cases hlt : u < x.items.length
      · have hx : x.items[u]? = some x.items[u] := by simp [hlt]
        have hw : IntKind.i64.wrap ((u : Int) + 1) = ((u + 1 : Nat) : Int) := i64w (by omega) (by omega)
        have hc := hch _ (hti x.items[u] (List.getElem_mem hlt))
        have hrec := ih x.items[u].drawing (IntKind.i64.wrap (m * x.items[u].count)) cnt' hc.1 (by omega)
        rw [List.drop_eq_getElem_cons hlt, List.flatMap_cons, addM, addM, List.foldl_append] at hadd
        simp only [iv, expO] at hrec
        have hs : True := trivial
        repeat' first | (with_reducible first | refine q01 ?_ | refine q04 ?_ | refine q11 ?_ | refine q12 ?_ | refine q14 ?_) | (refine CallE.embed [0,1,2,3] (hrec) ?_ ?_ ?_ ?_ ?_ ?_; (focus (simp [emb]; done)); (focus (simp; done)); (focus (simp; done)); (focus (simp; done)); (focus (refine emb_all ?_; simp [emb, embAll]; done)); try simp -dsimp [mergeO, emb, hx, hw, hlt, hs]) | (with_reducible refine DT_regionE [0,1,2,3,4,7,9,15,22,23,24,25] ?_; simp -dsimp [hx, hw, hlt, hs]) | (refine DT_cond rfl (fun h => ?_) (fun h => ?_) <;> (try simp only [nrm] at h) <;> (try exact Bool.noConfusion h))
        all_goals try simp -dsimp [hx, hw, hlt, hs]
        all_goals try clear hs
        exact At.round ⟨(u + 1, addM cnt' (leavesF (takeI l lets) k x.items[u].drawing (IntKind.i64.wrap (m * x.items[u].count)))), by omega, hadd⟩ (by simp; omega) (Weak.of_drop [1,2,3,4,22,23,24] 4 (by simp) (by simp) (by simp [expO]))
      · rw [List.drop_eq_nil_of_le (by omega)] at hadd
        have hs : True := trivial
        repeat' first | (with_reducible first | refine q01 ?_ | refine q03 ?_ | refine q06 ?_ | refine q11 ?_ | refine q16 ?_) | (with_reducible refine At.fn_end (by simp -dsimp [hlt, hs]; exact rfl) ?_) | (with_reducible refine DT_regionE [0,1,2,3,4,7,9,15,22,23,24,25] ?_; simp -dsimp [hlt, hs]) | (refine DT_cond rfl (fun h => ?_) (fun h => ?_) <;> (try simp only [nrm] at h) <;> (try exact Bool.noConfusion h)) | with_reducible refine And.intro ?_ ?_
        all_goals try simp -dsimp [hlt, hs]
        all_goals try clear hs
        rw [hE, hadd]; simp [expO, addM]
    · rw [if_pos (by omega)] at hE
      have hz : x.items.length = 0 := by omega
      have hs : True := trivial
      repeat' first | (with_reducible first | refine q01 ?_ | refine q11 ?_ | refine q12 ?_) | (with_reducible refine DT_regionE [0,1,2,3,4,7,9,15,22,23,24,25] ?_; simp -dsimp [hlook, hkind, hz, hs]) | (refine DT_cond rfl (fun h => ?_) (fun h => ?_) <;> (try simp only [nrm] at h) <;> (try exact Bool.noConfusion h))
      all_goals try simp -dsimp [hlook, hkind, hz, hs]
      all_goals try clear hs
      refine DT_loop (ι := Unit) (fun _ => ⟨37, [(23, iv 0), (24, iv 0)], expO (tkM l lets) (addM cnt [(d, m)])⟩) (fun _ => 0) () (Weak.of_drop [23,24] 4 (by simp) (by simp) (by simp [expO, addM])) ?_
      intro _
      simp only [iv, expO]
      have hs : True := trivial
      repeat' first | (with_reducible first | refine q01 ?_ | refine q03 ?_ | refine q06 ?_ | refine q11 ?_ | refine q16 ?_) | (with_reducible refine At.fn_end (by simp -dsimp [hs]; exact rfl) ?_) | (with_reducible refine DT_regionE [0,1,2,3,4,7,9,15,22,23,24,25] ?_; simp -dsimp [hs]) | (refine DT_cond rfl (fun h => ?_) (fun h => ?_) <;> (try simp only [nrm] at h) <;> (try exact Bool.noConfusion h)) | with_reducible refine And.intro ?_ ?_
      all_goals try simp -dsimp [hs]
      all_goals try clear hs
      rw [hE]
def cntM (l : List Issue) (lets : List Int) (d : Int) : List (Int × Int) := addM [] (leavesF (takeI l lets) 6 d 1)
def partsP (ns : List Int) (m : List (Int × Int)) : List Itm := (ns.filter fun n => decide (0 < mlook m n)).map fun n => ⟨n, mlook m n⟩
def explR (l : List Issue) (lets : List Int) (d : Int) : List Itm := if takenE l lets d = 0 then partsP (nums l) (cntM l lets d) else []
set_option maxHeartbeats 1000000 in
theorem explode_c (l : List Issue) (lets : List Int) (d : Int) (hG : sheetG G) (hs : SmallR l) (hll : lets.length < 1000000) (objs : List DObj) : DCall Tryz.prog G 38 [regv l, isv lets, iv d] objs (fun rr objs' => rr = .tup [.one (.im (.sl ((explR l lets d).map encItem))), iv (takenE l lets d)] ∧ objs' = objs) := by
  refine DCall.frame ?_ (by simp) (by simp) objs
  refine DCall_intro Tryz.func38 rfl Tryz.ntmps38 (by simp) rfl ?_
  try simp only [regv, isv, iv]
  have c1 := sTaken_c (G := G) l lets d hG hs hll
  by_cases hE : takenE l lets d = 0
  · have h0 : checkR l = 0 := by
      by_cases h : checkR l = 0
      · exact h
      · simp [takenE, h] at hE
    have hlet : lettersI l lets = true := by
      cases h : lettersI l lets
      · simp [takenE, h0, h] at hE
      · rfl
    have hd : d ∈ nums l := Classical.byContradiction fun h => by simp [takenE, h0, hlet, h] at hE
    obtain ⟨dep, hdep⟩ := dep_spec h0
    have c2 := explode1_c (G := G) l lets h0 hlet dep hdep 6 d 1 [] hd (by have := (hdep d hd).2.1; omega)
    have hR : explR l lets d = partsP (nums l) (cntM l lets d) := by simp [explR, hE]
    have hnl : (nums l).length ≤ l.length := numsTo_length l l.length
    have hl80 := hs.1
    change DCall _ _ _ _ _ (fun r o => r = .tup [] ∧ o = expO (tkM l lets) (cntM l lets d)) at c2
    generalize cntM l lets d = cnt at *
    simp only [takenR, hE, if_true, bookI] at c1
    simp only [iv, expO, show encM [] = [] from rfl] at c2
    generalize nums l = ns at *
    have hs : True := trivial
    repeat' first | (with_reducible first | refine q01 ?_ | refine q11 ?_ | refine q12 ?_ | refine q14 ?_) | (refine CallE.pure (c1) ?_; try simp -dsimp [hs]) | (refine CallE.embed [2,3,4,5] (c2) ?_ ?_ ?_ ?_ ?_ ?_; (focus (simp [emb]; done)); (focus (simp; done)); (focus (simp; done)); (focus (simp; done)); (focus (refine emb_all ?_; simp [emb, embAll]; done)); try simp -dsimp [mergeO, emb, hs]) | (with_reducible refine DT_regionE [0,1,2,3,6,7,8,9,10,11,12,13,15,25,35,36,37,38,44] ?_; simp -dsimp [hs]) | (refine DT_cond rfl (fun h => ?_) (fun h => ?_) <;> (try simp only [nrm] at h) <;> (try exact Bool.noConfusion h))
    all_goals try simp -dsimp [hs]
    all_goals try clear hs
    refine DT_loop (ι := { p : Nat × Nat × Bool × List Itm // p.1 ≤ ns.length ∧ p.2.2.2.length ≤ p.1 ∧ partsP ns cnt = p.2.2.2 ++ partsP (ns.drop p.1) cnt }) (fun p => ⟨55, [(11, .one (.ptr 4 0)), (13, .one (.vec 6 p.1.2.1 0 p.1.2.2.2.length)), (35, isv ns), (36, iv (ns.length : Int)), (37, iv (p.1.1 : Int))], [.row [.im (.sl (l.map encIssue))], .vec 2 [] 0 true, .row [.im (.mp [.int .i64] (encMSI (tkM l lets)))], .map [.int .i64] (encM cnt), .row [.map 3], .row [.fn (.func 79) [.ptr 2 0, .ptr 4 0, .ptr 5 0]], .vec 2 (ims (p.1.2.2.2.map encItem)) p.1.2.1 p.1.2.2.1]⟩) (fun p => ns.length - p.1.1) ⟨(0, 0, true, []), by simp⟩ (Weak.of_keep [11,13,35,36,37] (by simp)) ?_
    rintro ⟨⟨k, g, nl, out⟩, hk, hol, hp⟩
    simp only at hk hol hp
    simp only [iv, isv]
    by_cases hlt : k < ns.length
    · have hx : ns[k]? = some ns[k] := by simp [hlt]
      have hw : IntKind.i64.wrap ((k : Int) + 1) = ((k + 1 : Nat) : Int) := i64w (by omega) (by omega)
      rw [List.drop_eq_getElem_cons hlt] at hp
      by_cases hpos : 0 < mlook cnt ns[k]
      · rw [partsP, partsP, List.filter_cons_of_pos (by simpa using hpos), List.map_cons] at hp
        have hs : True := trivial
        repeat' first | (with_reducible first | refine q01 ?_ | refine q04 ?_ | refine q11 ?_ | refine q12 ?_ | refine q14 ?_ | refine And.intro (by omega) ?_) | (with_reducible refine DT_regionE [0,1,2,3,6,7,8,9,10,11,12,13,15,25,35,36,37,38,44] ?_; simp -dsimp [hx, hw, hlt, hpos, hs]) | (refine DT_cond rfl (fun h => ?_) (fun h => ?_) <;> (try simp only [nrm] at h) <;> (try exact Bool.noConfusion h))
        all_goals try simp -dsimp [hx, hw, hlt, hpos, hs]
        all_goals try clear hs
        all_goals try omega
        exact At.round ⟨(k + 1, g + 1, false, out ++ [⟨ns[k], mlook cnt ns[k]⟩]), by omega, by simp; omega, by rw [partsP, hp, partsP]; simp⟩ (by simp; omega) (Weak.of_drop [11,13,35,36,37] 7 (by simp) (by simp) (by simp))
      · rw [partsP, partsP, List.filter_cons_of_neg (by simpa using hpos)] at hp
        have hs : True := trivial
        repeat' first | (with_reducible first | refine q01 ?_ | refine q04 ?_ | refine q11 ?_ | refine q12 ?_ | refine q14 ?_) | (with_reducible refine DT_regionE [0,1,2,3,6,7,8,9,10,11,12,13,15,25,35,36,37,38,44] ?_; simp -dsimp [hx, hw, hlt, hpos, hs]) | (refine DT_cond rfl (fun h => ?_) (fun h => ?_) <;> (try simp only [nrm] at h) <;> (try exact Bool.noConfusion h))
        all_goals try simp -dsimp [hx, hw, hlt, hpos, hs]
        all_goals try clear hs
        exact At.round ⟨(k + 1, g, nl, out), by omega, by show out.length ≤ k + 1; omega, hp⟩ (by simp; omega) (Weak.of_keep [11,13,35,36,37] (by simp))
    · rw [List.drop_eq_nil_of_le (by omega)] at hp
      have hs : True := trivial
      repeat' first | (with_reducible first | refine q01 ?_ | refine q03 ?_ | refine q06 ?_ | refine q11 ?_ | refine q16 ?_ | refine q17 ?_) | (with_reducible refine At.fn_ret (by simp -dsimp [hlt, hs]; exact rfl) ?_) | (with_reducible refine DT_regionE [0,1,2,3,6,7,8,9,10,11,12,13,15,25,35,36,37,38,44] ?_; simp -dsimp [hlt, hs]) | (refine DT_cond rfl (fun h => ?_) (fun h => ?_) <;> (try simp only [nrm] at h) <;> (try exact Bool.noConfusion h))
      all_goals try simp -dsimp [hlt, hs]
      all_goals try clear hs
      all_goals try omega
      rw [hR, hp]; simp [partsP, hE]
  · have hR : explR l lets d = [] := by simp [explR, hE]
    simp only [takenR, hE, if_false] at c1
    have hs : True := trivial
    repeat' first | (with_reducible first | refine q01 ?_ | refine q02 ?_ | refine q11 ?_ | refine q17 ?_) | (with_reducible refine At.fn_ret (by simp -dsimp [hE, hs]; exact rfl) ?_) | (refine CallE.pure (c1) ?_; try simp -dsimp [hE, hs]) | (with_reducible refine DT_regionE [0,1,2,3,6,7,8,9,10,11,12,13,15,25,35,36,37,38,44] ?_; simp -dsimp [hE, hs]) | (refine DT_cond rfl (fun h => ?_) (fun h => ?_) <;> (try simp only [nrm] at h) <;> (try exact Bool.noConfusion h))
    all_goals try simp -dsimp [hE, hs]
    all_goals try clear hs
    simp [hR]
end Go.Proofs
namespace Go.Proofs
open Go Go.Ab
variable {G : Nat → Option (List IC)}
structure Br where
  depth : Int
  drawing : Int
  letter : Int
  count : Int
def encBr (x : Br) : List IC := [rI x.depth, rI x.drawing, rI x.letter, rI x.count]
@[simp] theorem encBr_len (x : Br) : (encBr x).length = 4 := rfl
attribute [simp] encBr
def growL (tk : Int → Issue) : Nat → Int → Itm → List Br → List Br
  | 0, _, _, L => L
  | k + 1, dp, y, L => if 500 < L.length then L else (tk y.drawing).items.foldl (fun L z => growL tk k (dp + 1) z L) (L ++ [⟨dp, (tk y.drawing).drawing, (tk y.drawing).letter, y.count⟩])
theorem foldl_grow {f : List Br → Itm → List Br} (h : ∀ L z, L.length ≤ (f L z).length) : ∀ (l : List Itm) (L : List Br), L.length ≤ (l.foldl f L).length
  | [], L => Nat.le_refl _
  | z :: l, L => Nat.le_trans (h L z) (foldl_grow h l (f L z))
theorem growL_len (tk : Int → Issue) : ∀ (k : Nat) (dp : Int) (y : Itm) (L : List Br), L.length ≤ (growL tk k dp y L).length
  | 0, _, _, L => Nat.le_refl _
  | k + 1, dp, y, L => by
    rw [growL]
    split
    · exact Nat.le_refl _
    · refine Nat.le_trans ?_ (foldl_grow (fun L z => growL_len tk k (dp + 1) z L) _ _)
      simp
theorem foldl_top {f : List Br → Itm → List Br} (h : ∀ L z, L.length ≤ 501 → (f L z).length ≤ 501) : ∀ (l : List Itm) (L : List Br), L.length ≤ 501 → (l.foldl f L).length ≤ 501
  | [], L, hL => hL
  | z :: l, L, hL => foldl_top h l (f L z) (h L z hL)
theorem growL_top (tk : Int → Issue) : ∀ (k : Nat) (dp : Int) (y : Itm) (L : List Br), L.length ≤ 501 → (growL tk k dp y L).length ≤ 501
  | 0, _, _, L, h => h
  | k + 1, dp, y, L, h => by
    rw [growL]
    split
    · exact h
    · exact foldl_top (fun L z hL => growL_top tk k (dp + 1) z L hL) _ _ (by simp; omega)
def treV (L : List Br) : DObj := match L with
  | [] => .vec 0 [] 0 true
  | _ :: _ => .vec 4 (ims (L.map encBr)) L.length false
theorem treV_ne {L : List Br} (h : L ≠ []) : treV L = .vec 4 (ims (L.map encBr)) L.length false := by
  cases L with
  | nil => exact absurd rfl h
  | cons a L => rfl
def treO (by' : List (Int × Issue)) (L : List Br) : List DObj := [.row [.im (.mp [.int .i64] (encMSI by'))], treV L, .row [.vec 1 L.length 0 L.length], .row [.fn (.func 80) [.ptr 2 0, .ptr 0 0, .ptr 3 0]]]
set_option maxHeartbeats 4000000 in
theorem tree1_c (l : List Issue) (lets : List Int) (h0 : checkR l = 0) (hlet : lettersI l lets = true) (dep : Int → Int) (hdep : ∀ n ∈ nums l, 1 ≤ dep n ∧ dep n ≤ 6 ∧ ∀ c ∈ chI l n, c ∈ nums l ∧ dep c < dep n) :
    ∀ (k dp : Nat) (d c : Int) (L : List Br), d ∈ nums l → dep d ≤ k → dp + k ≤ 100 → L.length ≤ 501 →
      DCall Tryz.prog G 80 [iv (dp : Int), .agg [.im (rI d), .im (rI c)], .one (.ptr 2 0), .one (.ptr 0 0), .one (.ptr 3 0)] (treO (tkM l lets) L)
        (fun r o => r = .tup [] ∧ o = treO (tkM l lets) (growL (takeI l lets) k (dp : Int) ⟨d, c⟩ L)) := by
  intro k
  induction k with
  | zero => intro dp d c L hd hk; have := (hdep d hd).1; omega
  | succ k ih =>
    intro dp d c L hd hk hdp hL
    have hti := take_items h0 hlet hd
    obtain ⟨htm, _, _⟩ := take_spec h0 hlet hd
    have htok := (scan_all (listed_scan (check_listed h0))).2.2.2.1 _ htm
    have hsm := issueOk_small htok
    have hch := (hdep d hd).2.2
    have hE : growL (takeI l lets) (k + 1) (dp : Int) ⟨d, c⟩ L = if 500 < L.length then L else (takeI l lets d).items.foldl (fun L z => growL (takeI l lets) k ((dp : Int) + 1) z L) (L ++ [⟨(dp : Int), (takeI l lets d).drawing, (takeI l lets d).letter, c⟩]) := rfl
    have hlook : mlookS (tkM l lets) d = takeI l lets d := by rw [tkM, mlookS_map, if_pos hd]
    generalize takeI l lets d = x at *
    refine DCall.drop ?_
    refine DCall_intro Tryz.func80 rfl Tryz.ntmps80 (by simp) rfl ?_
    simp only [iv]
    by_cases h5 : 500 < L.length
    · have h5i : (500 : Int) < L.length := by omega
      have hLn : L ≠ [] := fun e => by rw [e] at h5; simp at h5
      rw [hE, if_pos h5]
      simp only [treO, treV_ne hLn]
      have hs : True := trivial
      repeat' first | (with_reducible first | refine q01 ?_ | refine q02 ?_ | refine q11 ?_ | refine q17 ?_) | (with_reducible refine At.fn_ret (by simp -dsimp [h5i, hs]; exact rfl) ?_) | (with_reducible refine DT_regionE [0,1,2,3,4,6,7,9,12,29,30,31,32] ?_; simp -dsimp [h5i, hs]) | (refine DT_cond rfl (fun h => ?_) (fun h => ?_) <;> (try simp only [nrm] at h) <;> (try exact Bool.noConfusion h)) | with_reducible refine And.intro ?_ ?_
      all_goals try simp -dsimp [h5i, hs]
      all_goals try clear hs
    · have h5i : ¬ (500 : Int) < L.length := by omega
      rw [if_neg h5] at hE
      have hwd : IntKind.i64.wrap ((dp : Int) + 1) = (dp : Int) + 1 := i64w (by omega) (by omega)
      have hst : ∀ L2 : List Br, L2 = L ++ [⟨(dp : Int), x.drawing, x.letter, c⟩] → L2 ≠ [] := fun L2 e h => by rw [e] at h; simp at h
      generalize hb : Br.mk (dp : Int) x.drawing x.letter c = b at *
      have hbe : encBr b = [rI (dp : Int), rI x.drawing, rI x.letter, rI c] := by rw [← hb]; rfl
      have hv : treV (L ++ [b]) = .vec 4 (ims ((L ++ [b]).map encBr)) (L ++ [b]).length false := treV_ne (by simp)
      by_cases hLn : L = []
      · subst hLn
        simp only [treO, treV]
        have hs : True := trivial
        repeat' first | (with_reducible first | refine q01 ?_ | refine q11 ?_ | refine q12 ?_ | refine q14 ?_) | (with_reducible refine DT_regionE [0,1,2,3,4,6,7,9,12,29,30,31,32] ?_; simp -dsimp [hlook, hwd, hs]) | (refine DT_cond rfl (fun h => ?_) (fun h => ?_) <;> (try simp only [nrm] at h) <;> (try exact Bool.noConfusion h))
        all_goals try simp -dsimp [hlook, hwd, hs]
        all_goals try clear hs
        refine DT_loop (ι := { p : Nat × List Br // p.1 ≤ x.items.length ∧ p.2.length ≤ 501 ∧ p.2 ≠ [] ∧ growL (takeI l lets) (k + 1) (dp : Int) ⟨d, c⟩ [] = (x.items.drop p.1).foldl (fun L z => growL (takeI l lets) k ((dp : Int) + 1) z L) p.2 }) (fun p => ⟨41, [(0, iv (dp : Int)), (2, .one (.ptr 2 0)), (3, .one (.ptr 0 0)), (4, .one (.ptr 3 0)), (29, .one (.im (.sl (x.items.map encItem)))), (30, iv (x.items.length : Int)), (31, iv (p.1.1 : Int))], treO (tkM l lets) p.1.2⟩) (fun p => x.items.length - p.1.1) ⟨(0, [b]), by simp, by simp, by simp, by simpa using hE⟩ (Weak.of_drop [0,2,3,4,29,30,31] 4 (by simp) (by simp) (by simp [treO, treV, ← hb])) ?_
        rintro ⟨⟨u, L'⟩, hu, hl5, hne, hfo⟩
        simp only at hu hl5 hne hfo
        simp only [iv, treO, treV_ne hne]
        by_cases hlt : u < x.items.length
        · have hx : x.items[u]? = some x.items[u] := by simp [hlt]
          have hw : IntKind.i64.wrap ((u : Int) + 1) = ((u + 1 : Nat) : Int) := i64w (by omega) (by omega)
          have hc := hch _ (hti x.items[u] (List.getElem_mem hlt))
          have hrec := ih (dp + 1) x.items[u].drawing x.items[u].count L' hc.1 (by omega) (by omega) hl5
          rw [show ((dp + 1 : Nat) : Int) = (dp : Int) + 1 by omega, show Itm.mk x.items[u].drawing x.items[u].count = x.items[u] from rfl] at hrec
          have hR1 := growL_len (takeI l lets) k ((dp : Int) + 1) x.items[u] L'
          have hR2 := growL_top (takeI l lets) k ((dp : Int) + 1) x.items[u] L' hl5
          have hR3 : growL (takeI l lets) k ((dp : Int) + 1) x.items[u] L' ≠ [] := fun e => by
            rw [e] at hR1; exact hne (List.eq_nil_of_length_eq_zero (by simpa using hR1))
          rw [List.drop_eq_getElem_cons hlt, List.foldl_cons] at hfo
          generalize growL (takeI l lets) k ((dp : Int) + 1) x.items[u] L' = L3 at *
          simp only [treO, treV_ne hne, treV_ne hR3, iv] at hrec
          have hs : True := trivial
          repeat' first | (with_reducible first | refine q01 ?_ | refine q04 ?_ | refine q11 ?_ | refine q12 ?_ | refine q14 ?_) | (refine CallE.embed [0,1,2,3] (hrec) ?_ ?_ ?_ ?_ ?_ ?_; (focus (simp [emb]; done)); (focus (simp; done)); (focus (simp; done)); (focus (simp; done)); (focus (refine emb_all ?_; simp [emb, embAll]; done)); try simp -dsimp [mergeO, emb, hx, hw, hlt, hwd, hs]) | (with_reducible refine DT_regionE [0,1,2,3,4,6,7,9,12,29,30,31,32] ?_; simp -dsimp [hx, hw, hlt, hwd, hs]) | (refine DT_cond rfl (fun h => ?_) (fun h => ?_) <;> (try simp only [nrm] at h) <;> (try exact Bool.noConfusion h))
          all_goals try simp -dsimp [hx, hw, hlt, hwd, hs]
          all_goals try clear hs
          all_goals exact At.round ⟨(u + 1, L3), by omega, hR2, hR3, hfo⟩ (by simp; omega) (Weak.of_drop [0,2,3,4,29,30,31] 4 (by simp) (by simp) (by simp [treO, treV_ne hR3]))
        · rw [List.drop_eq_nil_of_le (by omega), List.foldl_nil] at hfo
          have hs : True := trivial
          repeat' first | (with_reducible first | refine q01 ?_ | refine q03 ?_ | refine q06 ?_ | refine q11 ?_ | refine q16 ?_) | (with_reducible refine At.fn_end (by simp -dsimp [hlt, hs]; exact rfl) ?_) | (with_reducible refine DT_regionE [0,1,2,3,4,6,7,9,12,29,30,31,32] ?_; simp -dsimp [hlt, hs]) | (refine DT_cond rfl (fun h => ?_) (fun h => ?_) <;> (try simp only [nrm] at h) <;> (try exact Bool.noConfusion h)) | with_reducible refine And.intro ?_ ?_
          all_goals try simp -dsimp [hlt, hs]
          all_goals try clear hs
          all_goals (cases L' with | nil => exact absurd rfl hne | cons a r => simp [hfo, treO, treV])
      · simp only [treO, treV_ne hLn]
        have hs : True := trivial
        repeat' first | (with_reducible first | refine q01 ?_ | refine q11 ?_ | refine q12 ?_ | refine q14 ?_ | refine And.intro (by omega) ?_) | (with_reducible refine DT_regionE [0,1,2,3,4,6,7,9,12,29,30,31,32] ?_; simp -dsimp [h5i, hlook, hwd, hs]) | (refine DT_cond rfl (fun h => ?_) (fun h => ?_) <;> (try simp only [nrm] at h) <;> (try exact Bool.noConfusion h))
        all_goals try simp -dsimp [h5i, hlook, hwd, hs]
        all_goals try clear hs
        refine DT_loop (ι := { p : Nat × List Br // p.1 ≤ x.items.length ∧ p.2.length ≤ 501 ∧ p.2 ≠ [] ∧ growL (takeI l lets) (k + 1) (dp : Int) ⟨d, c⟩ L = (x.items.drop p.1).foldl (fun L z => growL (takeI l lets) k ((dp : Int) + 1) z L) p.2 }) (fun p => ⟨41, [(0, iv (dp : Int)), (2, .one (.ptr 2 0)), (3, .one (.ptr 0 0)), (4, .one (.ptr 3 0)), (29, .one (.im (.sl (x.items.map encItem)))), (30, iv (x.items.length : Int)), (31, iv (p.1.1 : Int))], treO (tkM l lets) p.1.2⟩) (fun p => x.items.length - p.1.1) ⟨(0, L ++ [b]), by simp, by simp; omega, by simp, by simpa using hE⟩ (Weak.of_drop [0,2,3,4,29,30,31] 4 (by simp) (by simp) (by simp [treO, hv]; simp [← hb])) ?_
        rintro ⟨⟨u, L'⟩, hu, hl5, hne, hfo⟩
        simp only at hu hl5 hne hfo
        simp only [iv, treO, treV_ne hne]
        by_cases hlt : u < x.items.length
        · have hx : x.items[u]? = some x.items[u] := by simp [hlt]
          have hw : IntKind.i64.wrap ((u : Int) + 1) = ((u + 1 : Nat) : Int) := i64w (by omega) (by omega)
          have hc := hch _ (hti x.items[u] (List.getElem_mem hlt))
          have hrec := ih (dp + 1) x.items[u].drawing x.items[u].count L' hc.1 (by omega) (by omega) hl5
          rw [show ((dp + 1 : Nat) : Int) = (dp : Int) + 1 by omega, show Itm.mk x.items[u].drawing x.items[u].count = x.items[u] from rfl] at hrec
          have hR1 := growL_len (takeI l lets) k ((dp : Int) + 1) x.items[u] L'
          have hR2 := growL_top (takeI l lets) k ((dp : Int) + 1) x.items[u] L' hl5
          have hR3 : growL (takeI l lets) k ((dp : Int) + 1) x.items[u] L' ≠ [] := fun e => by
            rw [e] at hR1; exact hne (List.eq_nil_of_length_eq_zero (by simpa using hR1))
          rw [List.drop_eq_getElem_cons hlt, List.foldl_cons] at hfo
          generalize growL (takeI l lets) k ((dp : Int) + 1) x.items[u] L' = L3 at *
          simp only [treO, treV_ne hne, treV_ne hR3, iv] at hrec
          have hs : True := trivial
          repeat' first | (with_reducible first | refine q01 ?_ | refine q04 ?_ | refine q11 ?_ | refine q12 ?_ | refine q14 ?_) | (refine CallE.embed [0,1,2,3] (hrec) ?_ ?_ ?_ ?_ ?_ ?_; (focus (simp [emb]; done)); (focus (simp; done)); (focus (simp; done)); (focus (simp; done)); (focus (refine emb_all ?_; simp [emb, embAll]; done)); try simp -dsimp [mergeO, emb, hx, hw, hlt, hwd, hs]) | (with_reducible refine DT_regionE [0,1,2,3,4,6,7,9,12,29,30,31,32] ?_; simp -dsimp [hx, hw, hlt, hwd, hs]) | (refine DT_cond rfl (fun h => ?_) (fun h => ?_) <;> (try simp only [nrm] at h) <;> (try exact Bool.noConfusion h))
          all_goals try simp -dsimp [hx, hw, hlt, hwd, hs]
          all_goals try clear hs
          all_goals exact At.round ⟨(u + 1, L3), by omega, hR2, hR3, hfo⟩ (by simp; omega) (Weak.of_drop [0,2,3,4,29,30,31] 4 (by simp) (by simp) (by simp [treO, treV_ne hR3]))
        · rw [List.drop_eq_nil_of_le (by omega), List.foldl_nil] at hfo
          have hs : True := trivial
          repeat' first | (with_reducible first | refine q01 ?_ | refine q03 ?_ | refine q06 ?_ | refine q11 ?_ | refine q16 ?_) | (with_reducible refine At.fn_end (by simp -dsimp [hlt, hs]; exact rfl) ?_) | (with_reducible refine DT_regionE [0,1,2,3,4,6,7,9,12,29,30,31,32] ?_; simp -dsimp [hlt, hs]) | (refine DT_cond rfl (fun h => ?_) (fun h => ?_) <;> (try simp only [nrm] at h) <;> (try exact Bool.noConfusion h)) | with_reducible refine And.intro ?_ ?_
          all_goals try simp -dsimp [hlt, hs]
          all_goals try clear hs
          all_goals (cases L' with | nil => exact absurd rfl hne | cons a r => simp [hfo, treO, treV])
def treeL (l : List Issue) (lets : List Int) (d : Int) : List Br := growL (takeI l lets) 6 0 ⟨d, 1⟩ []
def treeE (l : List Issue) (lets : List Int) (d : Int) : Int := if takenE l lets d ≠ 0 then takenE l lets d else if 500 < (treeL l lets d).length then 4 else 0
def treeR (l : List Issue) (lets : List Int) (d : Int) : List Br := if treeE l lets d = 0 then treeL l lets d else []
theorem treeL_ne (l : List Issue) (lets : List Int) (d : Int) : treeL l lets d ≠ [] := by
  unfold treeL
  rw [growL, if_neg (by simp)]
  intro e
  have := foldl_grow (fun L z => growL_len (takeI l lets) 5 (0 + 1) z L) (takeI l lets d).items ([] ++ [⟨0, (takeI l lets d).drawing, (takeI l lets d).letter, 1⟩])
  rw [e] at this
  simp at this
set_option maxHeartbeats 2000000 in
theorem tree_c (l : List Issue) (lets : List Int) (d : Int) (hG : sheetG G) (hs : SmallR l) (hll : lets.length < 1000000) (objs : List DObj) : DCall Tryz.prog G 39 [regv l, isv lets, iv d] objs (fun rr objs' => rr = .tup [.one (.im (.sl ((treeR l lets d).map encBr))), iv (treeE l lets d)] ∧ objs' = objs) := by
  refine DCall.frame ?_ (by simp) (by simp) objs
  refine DCall_intro Tryz.func39 rfl Tryz.ntmps39 (by simp) rfl ?_
  try simp only [regv, isv, iv]
  have c1 := sTaken_c (G := G) l lets d hG hs hll
  by_cases hE : takenE l lets d = 0
  · have h0 : checkR l = 0 := by
      by_cases h : checkR l = 0
      · exact h
      · simp [takenE, h] at hE
    have hlet : lettersI l lets = true := by
      cases h : lettersI l lets
      · simp [takenE, h0, h] at hE
      · rfl
    have hd : d ∈ nums l := Classical.byContradiction fun h => by simp [takenE, h0, hlet, h] at hE
    obtain ⟨dep, hdep⟩ := dep_spec h0
    have c2 := tree1_c (G := G) l lets h0 hlet dep hdep 6 0 d 1 [] hd (by have := (hdep d hd).2.1; omega) (by omega) (by simp)
    change DCall _ _ _ _ _ (fun r o => r = .tup [] ∧ o = treO (tkM l lets) (treeL l lets d)) at c2
    have hne := treeL_ne l lets d
    have htop : (treeL l lets d).length ≤ 501 := growL_top _ _ _ _ _ (by simp)
    have hTE : treeE l lets d = if 500 < (treeL l lets d).length then 4 else 0 := by unfold treeE; rw [if_neg (by simp [hE])]
    have hTR : treeR l lets d = if 500 < (treeL l lets d).length then [] else treeL l lets d := by
      unfold treeR; rw [hTE]
      split <;> simp
    rw [hTE, hTR]
    generalize treeL l lets d = T at *
    simp only [takenR, hE, if_true, bookI] at c1
    simp only [treO, treV_ne hne, iv] at c2
    simp only [treV] at c2
    by_cases h5 : 500 < T.length
    · have h5i : (500 : Int) < T.length := by omega
      rw [if_pos h5, if_pos h5]
      have hs : True := trivial
      repeat' first | (with_reducible first | refine q01 ?_ | refine q02 ?_ | refine q11 ?_ | refine q14 ?_ | refine q17 ?_) | (with_reducible refine At.fn_ret (by simp -dsimp [h5i, hs]; exact rfl) ?_) | (refine CallE.pure (c1) ?_; try simp -dsimp [h5i, hs]) | (refine CallE.embed [2,3,4,5] (c2) ?_ ?_ ?_ ?_ ?_ ?_; (focus (simp [emb]; done)); (focus (simp; done)); (focus (simp; done)); (focus (simp; done)); (focus (refine emb_all ?_; simp [emb, embAll]; done)); try simp -dsimp [mergeO, emb, h5i, hs]) | (with_reducible refine DT_regionE [0,1,2,3,6,7,9,10,11,12,22,31] ?_; simp -dsimp [h5i, hs]) | (refine DT_cond rfl (fun h => ?_) (fun h => ?_) <;> (try simp only [nrm] at h) <;> (try exact Bool.noConfusion h))
      all_goals try simp -dsimp [h5i, hs]
      all_goals try clear hs
    · have h5i : ¬ (500 : Int) < T.length := by omega
      rw [if_neg h5, if_neg h5]
      have hs : True := trivial
      repeat' first | (with_reducible first | refine q01 ?_ | refine q11 ?_ | refine q14 ?_ | refine q17 ?_) | (with_reducible refine At.fn_ret (by simp -dsimp [h5i, hs]; exact rfl) ?_) | (refine CallE.pure (c1) ?_; try simp -dsimp [h5i, hs]) | (refine CallE.embed [2,3,4,5] (c2) ?_ ?_ ?_ ?_ ?_ ?_; (focus (simp [emb]; done)); (focus (simp; done)); (focus (simp; done)); (focus (simp; done)); (focus (refine emb_all ?_; simp [emb, embAll]; done)); try simp -dsimp [mergeO, emb, h5i, hs]) | (with_reducible refine DT_regionE [0,1,2,3,6,7,9,10,11,12,22,31] ?_; simp -dsimp [h5i, hs]) | (refine DT_cond rfl (fun h => ?_) (fun h => ?_) <;> (try simp only [nrm] at h) <;> (try exact Bool.noConfusion h))
      all_goals try simp -dsimp [h5i, hs]
      all_goals try clear hs
  · have hR : treeR l lets d = [] := by simp [treeR, treeE, hE]
    have hR2 : treeE l lets d = takenE l lets d := by simp [treeE, hE]
    simp only [takenR, hE, if_false] at c1
    have hs : True := trivial
    repeat' first | (with_reducible first | refine q01 ?_ | refine q02 ?_ | refine q11 ?_ | refine q17 ?_) | (with_reducible refine At.fn_ret (by simp -dsimp [hE, hs]; exact rfl) ?_) | (refine CallE.pure (c1) ?_; try simp -dsimp [hE, hs]) | (with_reducible refine DT_regionE [0,1,2,3,6,7,9,10,11,12,22,31] ?_; simp -dsimp [hE, hs]) | (refine DT_cond rfl (fun h => ?_) (fun h => ?_) <;> (try simp only [nrm] at h) <;> (try exact Bool.noConfusion h))
    all_goals try simp -dsimp [hE, hs]
    all_goals try clear hs
    all_goals simp [hR, hR2]
end Go.Proofs
