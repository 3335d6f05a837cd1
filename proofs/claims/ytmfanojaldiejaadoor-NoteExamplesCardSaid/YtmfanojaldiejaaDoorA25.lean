/- Part 25 of the proofs: laws and walks that hold without conditions beyond those that each theorem names. -/
import Derived.Test.YtmfanojaldiejaaDoorRows
import Derived.Test.YtmfanojaldiejaaDoorA13
import Derived.Test.YtmfanojaldiejaaDoorA18
import Derived.Test.YtmfanojaldiejaaDoorA19
import Derived.Test.YtmfanojaldiejaaDoorA20
import Derived.Test.YtmfanojaldiejaaDoorA22
import Derived.Test.YtmfanojaldiejaaDoorA23
import Derived.Test.YtmfanojaldiejaaDoorA24
set_option linter.all false
set_option linter.deprecated false
namespace Go.Proofs
open Go Go.Ab
set_option linter.unusedSimpArgs false
variable {G : Nat → Option (List IC)}
theorem x_wS : wS nX [] = [101] := by
  unfold wS clN
  rw [show nX.notes.length + 1 = 5 from rfl]
  have := x_withdraw
  rw [this]; rfl
set_option maxRecDepth 100000 in
set_option maxHeartbeats 16000000 in
theorem alive_c (hG : sheetG G) (hN : noteG G) (hS : SortOk G) (objs : List DObj) : DCall Tryd.prog G 4 [] objs (fun rr objs' => rr = bv true ∧ objs' = objs) := by
  refine DCall.frame ?_ (by simp) (by simp) objs
  refine DCall_intro Tryd.func4 rfl Tryd.ntmps4 (by simp) rfl ?_
  try simp only [iv]
  have hx := x_small
  have a0 : askedE nX [] 10 = 0 := x_asked 10 (by omega) (by omega)
  have a1 : askedE nX [] 1 = 0 := x_asked 1 (by omega) (by omega)
  have c0 := notesX_c (G := G)
  have c1 := nStretches_c (G := G) nX [] 30 hG hN hS hx (by simp)
  rw [x_drawn 1 30 (by omega) (by omega) (by simp), if_pos rfl, x_str] at c1
  have c2 := nBy_c (G := G) nX [] 30 15 hG hN hS hx (by simp)
  rw [x_drawn 15 30 (by omega) (by omega) (by simp), if_pos rfl, show nX.notes.length = 4 from rfl, x_by] at c2
  have c3 := nClash_c (G := G) nX [] hG hN hS hx (by simp)
  rw [show clashR nX [] = [(101, 104)] by unfold clashR; rw [a1, if_pos rfl, x_clash], a1] at c3
  have c4 := nWithdraw_c (G := G) nX [] hG hN hS hx (by simp)
  rw [show wE nX [] = [101] by unfold wE; rw [a1, if_pos rfl, x_wS], a1] at c4
  have c5 := nSure_c (G := G) nX 10 hG hN hS hx
  rw [a0, if_pos rfl, x_open, show (2 : Nat) ^ [(102 : Int)].length = 2 from rfl, x_sure] at c5
  have c6 := nMatters_c (G := G) nX 10 hG hN hS hx
  rw [a0, if_pos rfl, x_open, show (2 : Nat) ^ [(102 : Int)].length = 2 from rfl, show [(102 : Int)].length = 1 from rfl, x_matters] at c6
  have c7 := nSettle_c (G := G) nX 102 true hG hN hS x_smallN hx
  rw [x_settle, show settleN nX 102 true = nS by unfold settleN nS; rw [x_settle, if_pos rfl]; rfl] at c7
  have c8 := nFirst_c (G := G) nX [102] 10 2 hG hN hS hx (by simp)
  rw [x_first.1, x_first.2] at c8
  have c9 := forced_c (G := G) 15 [101,104] hG hN hS (by simp) (by omega) x_force15
  have c10 := forced_c (G := G) 11 [103] hG hN hS (by simp) (by omega) x_force11
  have c11 := lettered_c (G := G) [] 9 [1,1,2,1,1] hG hN hS (by simp) (by simp) (x_asked 9 (by omega) (by omega)) x_let9
  have c12 := lettered_c (G := G) [102] 9 [2,1,2,1,1] hG hN hS (by simp) (by simp) x_asked9 x_let9b
  have c13 := sameStr_c (G := G) [⟨1, 4, 1⟩, ⟨5, 9, 2⟩, ⟨10, 12, 1⟩, ⟨13, 14, 2⟩, ⟨15, 15, 1⟩, ⟨16, 999, 2⟩] (by simp)
  have c14 := samePairs_c (G := G) [(101, 104)] (by simp)
  have c15 := isX_c (G := G) [101] 0 [101] (by simp) (by simp)
  have c16 := isX_c (G := G) [0,1,1,1,1] 0 [0,1,1,1,1] (by simp) (by simp)
  have c17 := isX_c (G := G) [102] 0 [102] (by simp) (by simp)
  have c18 := possible_c (G := G) nS 10 10 [2] hG hN hS x_smallS (by simp) x_drawnS x_posS
  have c19 := possible_c (G := G) nX 10 10 [1,2] hG hN hS hx (by simp) (x_drawn 10 10 (by omega) (by omega) (by simp)) x_posX
  clear hx a0 a1 hG hN hS
  simp only [decide_true, Bool.and_self] at c15 c16 c17
  simp only [strv, prv, isv, refv, notesv, encNotes] at *
  generalize hA : nX.reg.map encIssue = A at *
  generalize hB : nX.notes.map encNote = B at *
  generalize hC : nS.reg.map encIssue = C at *
  generalize hD : nS.notes.map encNote = D at *
  have hs : True := trivial
  repeat' first | (with_reducible first | refine q01 ?_ | refine q11 ?_ | refine q14 ?_ | refine q17 ?_) | (with_reducible refine At.fn_ret (by simp -dsimp [hs]; exact rfl) ?_) | (refine CallE.pure (c0) ?_; try simp -dsimp [hs]) | (refine CallE.pure (c1) ?_; try simp -dsimp [hs]) | (refine CallE.pure (c2) ?_; try simp -dsimp [hs]) | (refine CallE.pure (c3) ?_; try simp -dsimp [hs]) | (refine CallE.pure (c4) ?_; try simp -dsimp [hs]) | (refine CallE.pure (c5) ?_; try simp -dsimp [hs]) | (refine CallE.pure (c6) ?_; try simp -dsimp [hs]) | (refine CallE.pure (c7) ?_; try simp -dsimp [hs]) | (refine CallE.thaw (c8) ?_ ?_ ?_; (focus (simp; done)); (focus (simp; done)); try simp -dsimp [hs]) | (refine CallE.thaw (c9) ?_ ?_ ?_; (focus (simp; done)); (focus (simp; done)); try simp -dsimp [hs]) | (refine CallE.thaw (c10) ?_ ?_ ?_; (focus (simp; done)); (focus (simp; done)); try simp -dsimp [hs]) | (refine CallE.thaw (c11) ?_ ?_ ?_; (focus (simp; done)); (focus (simp; done)); try simp -dsimp [hs]) | (refine CallE.thaw (c12) ?_ ?_ ?_; (focus (simp; done)); (focus (simp; done)); try simp -dsimp [hs]) | (refine CallE.thaw (c13) ?_ ?_ ?_; (focus (simp; done)); (focus (simp; done)); try simp -dsimp [hs]) | (refine CallE.thaw (c14) ?_ ?_ ?_; (focus (simp; done)); (focus (simp; done)); try simp -dsimp [hs]) | (refine CallE.thaw (c15) ?_ ?_ ?_; (focus (simp; done)); (focus (simp; done)); try simp -dsimp [hs]) | (refine CallE.thaw (c16) ?_ ?_ ?_; (focus (simp; done)); (focus (simp; done)); try simp -dsimp [hs]) | (refine CallE.thaw (c17) ?_ ?_ ?_; (focus (simp; done)); (focus (simp; done)); try simp -dsimp [hs]) | (refine CallE.thaw (c18) ?_ ?_ ?_; (focus (simp; done)); (focus (simp; done)); try simp -dsimp [hs]) | (refine CallE.thaw (c19) ?_ ?_ ?_; (focus (simp; done)); (focus (simp; done)); try simp -dsimp [hs]) | (with_reducible refine DT_regionE [0,1,2,3,4,5,6,7,8,9,10,11,12,13,14,15,16,17,121] ?_; simp -dsimp [hs]) | (refine DT_cond rfl (fun h => ?_) (fun h => ?_) <;> (try simp only [nrm] at h) <;> (try exact Bool.noConfusion h))
  all_goals try simp -dsimp [hs]
  all_goals try clear hs
end Go.Proofs
namespace Go.Proofs
open Go Go.Ab
set_option linter.unusedSimpArgs false
variable {G : Nat → Option (List IC)}
structure RF (n : Notes) : Prop where
  sn : SmallN n
  s : NSm n
  e : notesE n = 0
  c : checkR n.reg = 0
  l : n.notes.length ≤ 12
  ok : allOk n
  o5 : (isort (openL n.notes)).length ≤ 5
  ne : nums n.reg ≠ []
  n60 : (nums n.reg).length < 1000
theorem truth_sub {O t : List Int} (hO : O.Pairwise (· < ·)) (ht : t.Sublist O) : truthB O t = true := by
  refine truth_good fun i v hv => ⟨ht.subset (List.mem_of_getElem? hv), fun j u hj hu => ?_⟩
  subst hj
  obtain ⟨h1, h2⟩ := List.getElem?_eq_some_iff.1 hv
  obtain ⟨h3, h4⟩ := List.getElem?_eq_some_iff.1 hu
  have := List.pairwise_iff_getElem.1 (hO.sublist ht) j (j + 1) h3 h1 (by omega)
  omega
theorem RF.asked {n : Notes} (h : RF n) {t : List Int} (ht : t.Sublist (isort (openL n.notes))) {m : Int} (h1 : 1 ≤ m) (h2 : m ≤ 999) : askedE n t m = 0 := by
  unfold askedE
  rw [if_neg (by simp [h.e]), if_neg (by rw [truth_sub (isort_strict (openL_nodup h.ok)) ht]; decide), if_pos ⟨h1, h2⟩]
theorem RF.drawn {n : Notes} (h : RF n) {t : List Int} (ht : t.Sublist (isort (openL n.notes))) {m d : Int} (h1 : 1 ≤ m) (h2 : m ≤ 999) (hd : d ∈ nums n.reg) : drawnE n t m d = 0 := by
  unfold drawnE
  rw [if_neg (by simp [h.asked ht h1 h2]), if_pos hd]
def truthAt' (n : Notes) (b : Nat) : List Int := (truthsL (isort (openL n.notes))).getD (b % 2 ^ (isort (openL n.notes)).length) []
theorem RF.sub {n : Notes} (h : RF n) (b : Nat) : (truthAt' n b).Sublist (isort (openL n.notes)) := by
  rw [← truths_mem (isort_strict (openL_nodup h.ok))]
  unfold truthAt'
  have : b % 2 ^ (isort (openL n.notes)).length < (truthsL (isort (openL n.notes))).length := by rw [truthsL_len]; exact Nat.mod_lt _ (Nat.two_pow_pos _)
  rw [List.getD_eq_getElem?_getD, List.getElem?_eq_getElem this]
  exact List.getElem_mem this
theorem RF.len {n : Notes} (h : RF n) (b : Nat) : (truthAt' n b).length < 1000 := by
  have := (h.sub b).length_le
  have := h.o5; omega
end Go.Proofs
namespace Go.Ab
open Go
theorem list_enc {α : Type} {enc : α → List IC} {ok : α → Prop} : ∀ (es : List (List IC)), (∀ x ∈ es, ∃ a, ok a ∧ x = enc a) → ∃ xs : List α, (∀ x ∈ xs, ok x) ∧ es = xs.map enc
  | [], _ => ⟨[], by simp, rfl⟩
  | e :: es, h => by
    obtain ⟨a, ha, rfl⟩ := h e (by simp)
    obtain ⟨xs, hx, rfl⟩ := list_enc es fun x hx => h x (by simp [hx])
    exact ⟨a :: xs, by simpa using ⟨ha, hx⟩, rfl⟩
theorem Opens.sliceOf {P : Program} {t e : TypeId} {α : Type} {enc : α → List IC} {ok : α → Prop} {sz : Nat} (ht : P.underlying t = some (.slice e)) (hc : P.cellsOf e = sz) (h0 : 0 < sz) (hl : ∀ x, (enc x).length = sz) (he : Opens P e (fun l => ∃ x, ok x ∧ l = enc x)) :
    Opens P t (fun l => ∃ xs : List α, (∀ x ∈ xs, ok x) ∧ l = [.sl (xs.map enc)]) :=
  (Opens.slice ht hc h0 he (by rintro l ⟨x, _, rfl⟩; exact hl x)).mono (by
    rintro l ⟨es, h, rfl⟩
    obtain ⟨xs, h1, rfl⟩ := list_enc es h
    exact ⟨xs, h1, rfl⟩)
def kindIn (x : Issue) : Prop := 0 ≤ x.kind ∧ x.kind ≤ 255
end Go.Ab
namespace Go.Proofs
open Go Go.Ab
def Rd (t : TypeId) {α : Type} (enc : α → List IC) (ok : α → Prop) : Prop := Opens Tryd.prog t (fun l => ∃ x, ok x ∧ l = enc x)
theorem oInt : Opens Tryd.prog 3 (fun l => ∃ n : Int, l = [rI n]) := (Opens.int Tryd.underlying3).mono (by rintro l ⟨n, _, rfl⟩; exact ⟨n, rfl⟩)
theorem oU8 : Opens Tryd.prog 5 (fun l => ∃ n : Int, (0 ≤ n ∧ n ≤ 255) ∧ l = [.raw (.int .u8 n)]) := (Opens.int Tryd.underlying5).mono (by
  rintro l ⟨n, hn, rfl⟩
  exact ⟨n, by simpa [IntKind.min, IntKind.max, IntKind.signed, IntKind.bits] using hn, rfl⟩)
theorem oBool : Opens Tryd.prog 4 (fun l => ∃ b : Bool, l = [rB b]) := Opens.bool Tryd.underlying4
theorem rdInt : Rd 3 encI (fun _ => True) := oInt.mono (by rintro l ⟨n, rfl⟩; exact ⟨n, trivial, rfl⟩)
theorem len2 {α : Type} {l : List α} (h : l.length = 2) : ∃ a b, l = [a, b] := by
  match l, h with
  | [a, b], _ => exact ⟨a, b, rfl⟩
theorem len3 {α : Type} {l : List α} (h : l.length = 3) : ∃ a b c, l = [a, b, c] := by
  match l, h with
  | [a, b, c], _ => exact ⟨a, b, c, rfl⟩
theorem len4 {α : Type} {l : List α} (h : l.length = 4) : ∃ a b c d, l = [a, b, c, d] := by
  match l, h with
  | [a, b, c, d], _ => exact ⟨a, b, c, d, rfl⟩
theorem len5 {α : Type} {l : List α} (h : l.length = 5) : ∃ a b c d e, l = [a, b, c, d, e] := by
  match l, h with
  | [a, b, c, d, e], _ => exact ⟨a, b, c, d, e, rfl⟩
def pick3 {α : Type} (d : α) (a b c : α) : Nat → α | 0 => a | 1 => b | 2 => c | _ => d
def pick5 {α : Type} (z : α) (a b c d e : α) : Nat → α | 0 => a | 1 => b | 2 => c | 3 => d | 4 => e | _ => z
theorem rdItem : Rd 89 encItem (fun _ => True) := (Opens.struct Tryd.underlying89 (by kernel_rfl) (fun _ l => ∃ n : Int, l = [rI n]) (fun i f hf => by
    rcases i with _ | _ | i <;> simp at hf <;> subst hf <;> exact oInt)).mono (by
  rintro l ⟨ls, h1, h2, rfl⟩
  obtain ⟨a, b, rfl⟩ := len2 h1
  obtain ⟨x, rfl⟩ := h2 0 a rfl
  obtain ⟨y, rfl⟩ := h2 1 b rfl
  exact ⟨⟨x, y⟩, trivial, rfl⟩)
theorem rdDim : Rd 92 encDim (fun _ => True) := (Opens.struct Tryd.underlying92 (by kernel_rfl) (fun _ l => ∃ n : Int, l = [rI n]) (fun i f hf => by
    rcases i with _ | _ | _ | i <;> simp at hf <;> subst hf <;> exact oInt)).mono (by
  rintro l ⟨ls, h1, h2, rfl⟩
  obtain ⟨a, b, c, rfl⟩ := len3 h1
  obtain ⟨x, rfl⟩ := h2 0 a rfl
  obtain ⟨y, rfl⟩ := h2 1 b rfl
  obtain ⟨z, rfl⟩ := h2 2 c rfl
  exact ⟨⟨x, y, z⟩, trivial, rfl⟩)
theorem oItems : Opens Tryd.prog 83 (fun l => ∃ xs : List Itm, l = [.sl (xs.map encItem)]) :=
  (Opens.sliceOf Tryd.underlying83 (sz := 2) (by kernel_rfl) (by decide) (fun _ => rfl) rdItem).mono (by rintro l ⟨xs, _, h⟩; exact ⟨xs, h⟩)
theorem oDims : Opens Tryd.prog 84 (fun l => ∃ xs : List Dim, l = [.sl (xs.map encDim)]) :=
  (Opens.sliceOf Tryd.underlying84 (sz := 3) (by kernel_rfl) (by decide) (fun _ => rfl) rdDim).mono (by rintro l ⟨xs, _, h⟩; exact ⟨xs, h⟩)
theorem oInts : Opens Tryd.prog 36 (fun l => ∃ xs : List Int, l = [.sl (xs.map encI)]) :=
  (Opens.sliceOf Tryd.underlying36 (sz := 1) (by kernel_rfl) (by decide) (fun _ => rfl) rdInt).mono (by rintro l ⟨xs, _, h⟩; exact ⟨xs, h⟩)
theorem rdIssue : Rd 86 encIssue kindIn := (Opens.struct Tryd.underlying86 (by kernel_rfl) (pick5 (fun _ => True) (fun l => ∃ n : Int, l = [rI n]) (fun l => ∃ n : Int, l = [rI n]) (fun l => ∃ n : Int, (0 ≤ n ∧ n ≤ 255) ∧ l = [.raw (.int .u8 n)]) (fun l => ∃ xs : List Itm, l = [.sl (xs.map encItem)]) (fun l => ∃ xs : List Dim, l = [.sl (xs.map encDim)])) (fun i f hf => by
    rcases i with _ | _ | _ | _ | _ | i <;> simp at hf <;> subst hf
    · exact oInt
    · exact oInt
    · exact oU8
    · exact oItems
    · exact oDims)).mono (by
  rintro l ⟨ls, h1, h2, rfl⟩
  obtain ⟨a, b, c, d, e, rfl⟩ := len5 h1
  obtain ⟨x, rfl⟩ := h2 0 a rfl
  obtain ⟨y, rfl⟩ := h2 1 b rfl
  obtain ⟨z, hz, rfl⟩ := h2 2 c rfl
  obtain ⟨u, rfl⟩ := h2 3 d rfl
  obtain ⟨v, rfl⟩ := h2 4 e rfl
  exact ⟨⟨x, y, z, u, v⟩, hz, rfl⟩)
theorem oReg22 : Opens Tryd.prog 26 (fun l => ∃ xs : List Issue, (∀ x ∈ xs, kindIn x) ∧ l = [.sl (xs.map encIssue)]) :=
  Opens.sliceOf Tryd.underlying26 (sz := 5) (by kernel_rfl) (by decide) (fun _ => rfl) rdIssue
theorem oReg : Opens Tryd.prog 28 (fun l => ∃ xs : List Issue, (∀ x ∈ xs, kindIn x) ∧ l = [.sl (xs.map encIssue)]) := (Opens.struct Tryd.underlying28 (by kernel_rfl) (fun _ l => ∃ xs : List Issue, (∀ x ∈ xs, kindIn x) ∧ l = [.sl (xs.map encIssue)]) (fun i f hf => by
    rcases i with _ | i <;> simp at hf <;> subst hf <;> exact oReg22)).mono (by
  rintro l ⟨ls, h1, h2, rfl⟩
  obtain ⟨a, rfl⟩ := List.length_eq_one_iff.1 h1
  obtain ⟨x, hx, rfl⟩ := h2 0 a rfl
  exact ⟨x, hx, rfl⟩)
theorem cells_of_table {P : Program} {W : World} {t e te n : Nat} {f : Field} {ps rs : Array TypeId} {cs : Array Value} {fuel : Nat} {p : List MemPlace} {names : List (List UInt8)} {fs : List FuncId} (ht : P.underlying t = some (.array n e)) (hte : P.underlying e = some (.struct #[f])) (hf0 : f.offset = 0) (hft : f.type = te) (hu : P.underlying te = some (.func ps rs false)) (hce : P.cellsOf e = 1) (hcf : P.cellsOf te = 1) (hn : names.length = n)
    (hfs : (names.zip fs).all (fun x => x.1 ≠ [] ∧ ((List.range P.funcs.size).filter fun f => (P.funcs[f]?).any (·.name.toUTF8.data.toList == x.1)) = [x.2]) = true) (hl : fs.length = n)
    (h : DataW.trod (funcToken P) P W 0 (fun _ => true) true fuel t cs.toList = some (.agg (names.map fun x => .agg [.held x]), p)) : ∀ (j : Nat) (g : FuncId), fs[j]? = some g → cs[j]? = some (.func (.func g) #[] #[]) := by
  obtain ⟨xs, m, _, ex, hlen, hxl, hel⟩ := DataW.trod_array ht h
  intro j g hg
  have hj : j < n := by rw [← hl]; exact lt_of_getElem? hg
  have hE := hel j hj
  rw [hce, Nat.mul_one] at hE
  have hx : xs[j]? = some xs[j] := by simp [hxl, hj]
  rw [hx] at hE
  obtain ⟨ys, m2, _, ey, hlen2, hyl, hel2⟩ := DataW.trod_struct hte hE
  have hE2 := hel2 0 f rfl
  have hyl1 : ys.length = 1 := by simpa using hyl
  obtain ⟨y, rfl⟩ := List.length_eq_one_iff.1 hyl1
  rw [hf0, hft, hcf] at hE2
  have hcl : j < cs.size := by
    rcases Nat.lt_or_ge j cs.size with h1 | h1
    · exact h1
    · simp [hce] at hlen2; omega
  have hc1 : ((cs.toList.drop j).take 1) = [cs[j]] := by
    rw [List.drop_eq_getElem_cons (by simpa using hcl)]; simp
  rw [hc1] at hE2
  simp only [List.drop_zero, List.take_succ_cons, List.getElem?_cons_zero, List.take_nil] at hE2
  have hnm : names[j]? = some names[j] := by simp [hn, hj]
  have e1 : (xs.map (·.1))[j]? = (names.map fun x => DataW.agg [DataW.held x])[j]? := by rw [(DataW.agg.inj (Prod.mk.inj ex).1)]
  rw [List.getElem?_map, List.getElem?_map, hx, hnm, ey] at e1
  simp only [Option.map_some, Option.some.injEq, DataW.agg.injEq, List.map_cons, List.map_nil, List.cons.injEq, and_true] at e1
  have hall := List.all_eq_true.1 hfs (names[j], g) (List.mem_iff_getElem?.2 ⟨j, by rw [List.getElem?_zip_eq_some]; exact ⟨hnm, hg⟩⟩)
  simp only [decide_eq_true_eq] at hall
  cases hnj : names[j] with
  | nil => exact absurd hnj hall.1
  | cons b r =>
    rw [hnj] at hall e1
    have := func_of_trod (f0 := g) (q := y.2) hu hall.2 (by rw [hE2, ← e1])
    rw [Array.getElem?_eq_getElem hcl, this]
end Go.Proofs
namespace Go.Proofs
open Go Go.Ab
theorem len10 {α : Type} {l : List α} (h : l.length = 10) : ∃ a b c d e f g i j k, l = [a, b, c, d, e, f, g, i, j, k] := by
  match l, h with
  | [a, b, c, d, e, f, g, i, j, k], _ => exact ⟨a, b, c, d, e, f, g, i, j, k, rfl⟩
def noteIn (x : Note) : Prop := 0 ≤ x.ways ∧ x.ways ≤ 255 ∧ 0 ≤ x.signed ∧ x.signed ≤ 255
def noteP : Nat → List IC → Prop
  | 2 => fun l => ∃ n : Int, (0 ≤ n ∧ n ≤ 255) ∧ l = [.raw (.int .u8 n)]
  | 8 => fun l => ∃ b : Bool, l = [rB b]
  | 9 => fun l => ∃ n : Int, (0 ≤ n ∧ n ≤ 255) ∧ l = [.raw (.int .u8 n)]
  | _ => fun l => ∃ n : Int, l = [rI n]
theorem rdNote : Rd 41 encNote noteIn := (Opens.struct Tryd.underlying41 (by kernel_rfl) noteP (fun i f hf => by
    rcases i with _ | _ | _ | _ | _ | _ | _ | _ | _ | _ | i <;> simp at hf <;> subst hf
    · exact oInt
    · exact oInt
    · exact oU8
    · exact oInt
    · exact oInt
    · exact oInt
    · exact oInt
    · exact oInt
    · exact oBool
    · exact oU8)).mono (by
  rintro l ⟨ls, h1, h2, rfl⟩
  obtain ⟨a, b, c, d, e, f, g, i, j, k, rfl⟩ := len10 h1
  obtain ⟨x0, rfl⟩ := h2 0 a rfl
  obtain ⟨x1, rfl⟩ := h2 1 b rfl
  obtain ⟨x2, k2, rfl⟩ := h2 2 c rfl
  obtain ⟨x3, rfl⟩ := h2 3 d rfl
  obtain ⟨x4, rfl⟩ := h2 4 e rfl
  obtain ⟨x5, rfl⟩ := h2 5 f rfl
  obtain ⟨x6, rfl⟩ := h2 6 g rfl
  obtain ⟨x7, rfl⟩ := h2 7 i rfl
  obtain ⟨x8, rfl⟩ := h2 8 j rfl
  obtain ⟨x9, k9, rfl⟩ := h2 9 k rfl
  exact ⟨⟨x0, x1, x2, x3, x4, x5, x6, x7, x8, x9⟩, ⟨k9.1, k9.2, k2.1, k2.2⟩, rfl⟩)
theorem oNoteL : Opens Tryd.prog 29 (fun l => ∃ xs : List Note, (∀ x ∈ xs, noteIn x) ∧ l = [.sl (xs.map encNote)]) :=
  Opens.sliceOf Tryd.underlying29 (sz := 10) (by kernel_rfl) (by decide) (fun _ => rfl) rdNote
def notesP : Nat → List IC → Prop
  | 0 => fun l => ∃ xs : List Issue, (∀ x ∈ xs, kindIn x) ∧ l = [.sl (xs.map encIssue)]
  | _ => fun l => ∃ xs : List Note, (∀ x ∈ xs, noteIn x) ∧ l = [.sl (xs.map encNote)]
theorem rdNotes : Rd 31 encNotes NKind := (Opens.struct Tryd.underlying31 (by kernel_rfl) notesP (fun i f hf => by
    rcases i with _ | _ | i <;> simp at hf <;> subst hf
    · exact oReg
    · exact oNoteL)).mono (by
  rintro l ⟨ls, h1, h2, rfl⟩
  obtain ⟨a, b, rfl⟩ := len2 h1
  obtain ⟨x, hx, rfl⟩ := h2 0 a rfl
  obtain ⟨y, hy, rfl⟩ := h2 1 b rfl
  exact ⟨⟨x, y⟩, ⟨hx, hy⟩, rfl⟩)
end Go.Proofs
