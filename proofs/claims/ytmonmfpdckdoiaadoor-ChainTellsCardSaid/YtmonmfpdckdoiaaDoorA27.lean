/- Part 27 of the proof whose last text closes the card: laws and walks that hold without conditions beyond those that each theorem names. -/
import Derived.Test.YtmonmfpdckdoiaaDoorRows
import Derived.Test.YtmonmfpdckdoiaaDoorA13
import Derived.Test.YtmonmfpdckdoiaaDoorA26
set_option linter.all false
set_option linter.deprecated false
namespace Go.Ab
open Go
theorem list_enc {α : Type} {enc : α → List IC} {ok : α → Prop} : ∀ (es : List (List IC)), (∀ x ∈ es, ∃ a, ok a ∧ x = enc a) → ∃ xs : List α, (∀ x ∈ xs, ok x) ∧ es = xs.map enc
  | [], _ => ⟨[], by simp, rfl⟩
  | e :: es, h => by
    obtain ⟨a, ha, rfl⟩ := h e (by simp)
    obtain ⟨xs, hx, rfl⟩ := list_enc es fun x hx => h x (by simp [hx])
    exact ⟨a :: xs, by simpa using ⟨ha, hx⟩, rfl⟩
/-- A slice of what is written so. -/
theorem Opens.sliceOf {P : Program} {t e : TypeId} {α : Type} {enc : α → List IC} {ok : α → Prop} {sz : Nat} (ht : P.underlying t = some (.slice e)) (hc : P.cellsOf e = sz) (h0 : 0 < sz) (hl : ∀ x, (enc x).length = sz) (he : Opens P e (fun l => ∃ x, ok x ∧ l = enc x)) :
    Opens P t (fun l => ∃ xs : List α, (∀ x ∈ xs, ok x) ∧ l = [.sl (xs.map enc)]) :=
  (Opens.slice ht hc h0 he (by rintro l ⟨x, _, rfl⟩; exact hl x)).mono (by
    rintro l ⟨es, h, rfl⟩
    obtain ⟨xs, h1, rfl⟩ := list_enc es h
    exact ⟨xs, h1, rfl⟩)
def kindIn (x : Issue) : Prop := 0 ≤ x.kind ∧ x.kind ≤ 255
end Go.Ab
namespace Go.Proofs
open Go Go.Ab
def Rd (t : TypeId) {α : Type} (enc : α → List IC) (ok : α → Prop) : Prop := Opens Tryd.prog t (fun l => ∃ x, ok x ∧ l = enc x)
theorem oInt : Opens Tryd.prog 3 (fun l => ∃ n : Int, l = [rI n]) := (Opens.int Tryd.underlying3).mono (by rintro l ⟨n, _, rfl⟩; exact ⟨n, rfl⟩)
theorem oU8 : Opens Tryd.prog 5 (fun l => ∃ n : Int, (0 ≤ n ∧ n ≤ 255) ∧ l = [.raw (.int .u8 n)]) := (Opens.int Tryd.underlying5).mono (by
  rintro l ⟨n, hn, rfl⟩
  exact ⟨n, by simpa [IntKind.min, IntKind.max, IntKind.signed, IntKind.bits] using hn, rfl⟩)
theorem oBool : Opens Tryd.prog 4 (fun l => ∃ b : Bool, l = [rB b]) := Opens.bool Tryd.underlying4
theorem rdInt : Rd 3 encI (fun _ => True) := oInt.mono (by rintro l ⟨n, rfl⟩; exact ⟨n, trivial, rfl⟩)
theorem len2 {α : Type} {l : List α} (h : l.length = 2) : ∃ a b, l = [a, b] := by
  match l, h with
  | [a, b], _ => exact ⟨a, b, rfl⟩
theorem len3 {α : Type} {l : List α} (h : l.length = 3) : ∃ a b c, l = [a, b, c] := by
  match l, h with
  | [a, b, c], _ => exact ⟨a, b, c, rfl⟩
theorem len4 {α : Type} {l : List α} (h : l.length = 4) : ∃ a b c d, l = [a, b, c, d] := by
  match l, h with
  | [a, b, c, d], _ => exact ⟨a, b, c, d, rfl⟩
theorem len5 {α : Type} {l : List α} (h : l.length = 5) : ∃ a b c d e, l = [a, b, c, d, e] := by
  match l, h with
  | [a, b, c, d, e], _ => exact ⟨a, b, c, d, e, rfl⟩
def pick3 {α : Type} (d : α) (a b c : α) : Nat → α | 0 => a | 1 => b | 2 => c | _ => d
def pick5 {α : Type} (z : α) (a b c d e : α) : Nat → α | 0 => a | 1 => b | 2 => c | 3 => d | 4 => e | _ => z
theorem rdItem : Rd 160 encItem (fun _ => True) := (Opens.struct Tryd.underlying160 (by kernel_rfl) (fun _ l => ∃ n : Int, l = [rI n]) (fun i f hf => by
    rcases i with _ | _ | i <;> simp at hf <;> subst hf <;> exact oInt)).mono (by
  rintro l ⟨ls, h1, h2, rfl⟩
  obtain ⟨a, b, rfl⟩ := len2 h1
  obtain ⟨x, rfl⟩ := h2 0 a rfl
  obtain ⟨y, rfl⟩ := h2 1 b rfl
  exact ⟨⟨x, y⟩, trivial, rfl⟩)
theorem rdDim : Rd 143 encDim (fun _ => True) := (Opens.struct Tryd.underlying143 (by kernel_rfl) (fun _ l => ∃ n : Int, l = [rI n]) (fun i f hf => by
    rcases i with _ | _ | _ | i <;> simp at hf <;> subst hf <;> exact oInt)).mono (by
  rintro l ⟨ls, h1, h2, rfl⟩
  obtain ⟨a, b, c, rfl⟩ := len3 h1
  obtain ⟨x, rfl⟩ := h2 0 a rfl
  obtain ⟨y, rfl⟩ := h2 1 b rfl
  obtain ⟨z, rfl⟩ := h2 2 c rfl
  exact ⟨⟨x, y, z⟩, trivial, rfl⟩)
theorem oItems : Opens Tryd.prog 133 (fun l => ∃ xs : List Itm, l = [.sl (xs.map encItem)]) :=
  (Opens.sliceOf Tryd.underlying133 (sz := 2) (by kernel_rfl) (by decide) (fun _ => rfl) rdItem).mono (by rintro l ⟨xs, _, h⟩; exact ⟨xs, h⟩)
theorem oDims : Opens Tryd.prog 93 (fun l => ∃ xs : List Dim, l = [.sl (xs.map encDim)]) :=
  (Opens.sliceOf Tryd.underlying93 (sz := 3) (by kernel_rfl) (by decide) (fun _ => rfl) rdDim).mono (by rintro l ⟨xs, _, h⟩; exact ⟨xs, h⟩)
theorem oInts : Opens Tryd.prog 25 (fun l => ∃ xs : List Int, l = [.sl (xs.map encI)]) :=
  (Opens.sliceOf Tryd.underlying25 (sz := 1) (by kernel_rfl) (by decide) (fun _ => rfl) rdInt).mono (by rintro l ⟨xs, _, h⟩; exact ⟨xs, h⟩)
theorem rdIssue : Rd 135 encIssue kindIn := (Opens.struct Tryd.underlying135 (by kernel_rfl) (pick5 (fun _ => True) (fun l => ∃ n : Int, l = [rI n]) (fun l => ∃ n : Int, l = [rI n]) (fun l => ∃ n : Int, (0 ≤ n ∧ n ≤ 255) ∧ l = [.raw (.int .u8 n)]) (fun l => ∃ xs : List Itm, l = [.sl (xs.map encItem)]) (fun l => ∃ xs : List Dim, l = [.sl (xs.map encDim)])) (fun i f hf => by
    rcases i with _ | _ | _ | _ | _ | i <;> simp at hf <;> subst hf
    · exact oInt
    · exact oInt
    · exact oU8
    · exact oItems
    · exact oDims)).mono (by
  rintro l ⟨ls, h1, h2, rfl⟩
  obtain ⟨a, b, c, d, e, rfl⟩ := len5 h1
  obtain ⟨x, rfl⟩ := h2 0 a rfl
  obtain ⟨y, rfl⟩ := h2 1 b rfl
  obtain ⟨z, hz, rfl⟩ := h2 2 c rfl
  obtain ⟨u, rfl⟩ := h2 3 d rfl
  obtain ⟨v, rfl⟩ := h2 4 e rfl
  exact ⟨⟨x, y, z, u, v⟩, hz, rfl⟩)
theorem oReg22 : Opens Tryd.prog 22 (fun l => ∃ xs : List Issue, (∀ x ∈ xs, kindIn x) ∧ l = [.sl (xs.map encIssue)]) :=
  Opens.sliceOf Tryd.underlying22 (sz := 5) (by kernel_rfl) (by decide) (fun _ => rfl) rdIssue
theorem oReg : Opens Tryd.prog 24 (fun l => ∃ xs : List Issue, (∀ x ∈ xs, kindIn x) ∧ l = [.sl (xs.map encIssue)]) := (Opens.struct Tryd.underlying24 (by kernel_rfl) (fun _ l => ∃ xs : List Issue, (∀ x ∈ xs, kindIn x) ∧ l = [.sl (xs.map encIssue)]) (fun i f hf => by
    rcases i with _ | i <;> simp at hf <;> subst hf <;> exact oReg22)).mono (by
  rintro l ⟨ls, h1, h2, rfl⟩
  obtain ⟨a, rfl⟩ := List.length_eq_one_iff.1 h1
  obtain ⟨x, hx, rfl⟩ := h2 0 a rfl
  exact ⟨x, hx, rfl⟩)
theorem rdLink : Rd 103 encLink (fun _ => True) := (Opens.struct Tryd.underlying103 (by kernel_rfl) (pick3 (fun _ => True) (fun l => ∃ n : Int, l = [rI n]) (fun l => ∃ n : Int, l = [rI n]) (fun l => ∃ b : Bool, l = [rB b])) (fun i f hf => by
    rcases i with _ | _ | _ | i <;> simp at hf <;> subst hf
    · exact oInt
    · exact oInt
    · exact oBool)).mono (by
  rintro l ⟨ls, h1, h2, rfl⟩
  obtain ⟨a, b, c, rfl⟩ := len3 h1
  obtain ⟨x, rfl⟩ := h2 0 a rfl
  obtain ⟨y, rfl⟩ := h2 1 b rfl
  obtain ⟨z, rfl⟩ := h2 2 c rfl
  exact ⟨⟨x, y, z⟩, trivial, rfl⟩)
theorem oLinks : Opens Tryd.prog 85 (fun l => ∃ xs : List Link, l = [.sl (xs.map encLink)]) :=
  (Opens.sliceOf Tryd.underlying85 (sz := 3) (by kernel_rfl) (by decide) (fun _ => rfl) rdLink).mono (by rintro l ⟨xs, _, h⟩; exact ⟨xs, h⟩)
theorem oGap : Opens Tryd.prog 32 (fun l => ∃ n m : Int, l = [rI n, rI m]) := (Opens.struct Tryd.underlying32 (by kernel_rfl) (fun _ l => ∃ n : Int, l = [rI n]) (fun i f hf => by
    rcases i with _ | _ | i <;> simp at hf <;> subst hf <;> exact oInt)).mono (by
  rintro l ⟨ls, h1, h2, rfl⟩
  obtain ⟨a, b, rfl⟩ := len2 h1
  obtain ⟨x, rfl⟩ := h2 0 a rfl
  obtain ⟨y, rfl⟩ := h2 1 b rfl
  exact ⟨x, y, rfl⟩)
theorem rdLoop : Rd 87 encLoop (fun _ => True) := (Opens.struct Tryd.underlying87 (by kernel_rfl) (pick3 (fun _ => True) (fun l => ∃ xs : List Link, l = [.sl (xs.map encLink)]) (fun l => ∃ n m : Int, l = [rI n, rI m]) (fun _ => True)) (fun i f hf => by
    rcases i with _ | _ | i <;> simp at hf <;> subst hf
    · exact oLinks
    · exact oGap)).mono (by
  rintro l ⟨ls, h1, h2, rfl⟩
  obtain ⟨a, b, rfl⟩ := len2 h1
  obtain ⟨x, rfl⟩ := h2 0 a rfl
  obtain ⟨y, z, rfl⟩ := h2 1 b rfl
  exact ⟨⟨x, y, z⟩, trivial, rfl⟩)
theorem oLoops : Opens Tryd.prog 26 (fun l => ∃ xs : List ChLoop, l = [.sl (xs.map encLoop)]) :=
  (Opens.sliceOf Tryd.underlying26 (sz := 3) (by kernel_rfl) (by decide) (fun _ => rfl) rdLoop).mono (by rintro l ⟨xs, _, h⟩; exact ⟨xs, h⟩)
theorem rdChains : Rd 28 encChains (fun c => ∀ x ∈ c.reg, kindIn x) := (Opens.struct Tryd.underlying28 (by kernel_rfl) (pick5 (fun _ => True) (fun l => ∃ xs : List Issue, (∀ x ∈ xs, kindIn x) ∧ l = [.sl (xs.map encIssue)]) (fun l => ∃ xs : List Int, l = [.sl (xs.map encI)]) (fun l => ∃ n : Int, l = [rI n]) (fun l => ∃ xs : List ChLoop, l = [.sl (xs.map encLoop)]) (fun _ => True)) (fun i f hf => by
    rcases i with _ | _ | _ | _ | i <;> simp at hf <;> subst hf
    · exact oReg
    · exact oInts
    · exact oInt
    · exact oLoops)).mono (by
  rintro l ⟨ls, h1, h2, rfl⟩
  obtain ⟨a, b, c, d, rfl⟩ := len4 h1
  obtain ⟨x, hx, rfl⟩ := h2 0 a rfl
  obtain ⟨y, rfl⟩ := h2 1 b rfl
  obtain ⟨z, rfl⟩ := h2 2 c rfl
  obtain ⟨u, rfl⟩ := h2 3 d rfl
  exact ⟨⟨x, y, z, u⟩, hx, rfl⟩)
/-! ### The listed tables -/
theorem gSheet : Tryd.prog.globalNamed "blueline/sheet.checks" = some 2 := by kernel_rfl
theorem gChain : Tryd.prog.globalNamed "blueline/chain.checks" = some 0 := by kernel_rfl
theorem tSheet : (Tryd.prog.globals[2]?).map (·.type) = some 221 := by kernel_rfl
theorem tChain : (Tryd.prog.globals[0]?).map (·.type) = some 163 := by kernel_rfl
/-- A table of records of one function each: its cells hold these functions. -/
theorem cells_of_table {P : Program} {W : World} {t e te n : Nat} {f : Field} {ps rs : Array TypeId} {cs : Array Value} {fuel : Nat} {p : List MemPlace} {names : List (List UInt8)} {fs : List FuncId} (ht : P.underlying t = some (.array n e)) (hte : P.underlying e = some (.struct #[f])) (hf0 : f.offset = 0) (hft : f.type = te) (hu : P.underlying te = some (.func ps rs false)) (hce : P.cellsOf e = 1) (hcf : P.cellsOf te = 1) (hn : names.length = n)
    (hfs : (names.zip fs).all (fun x => x.1 ≠ [] ∧ ((List.range P.funcs.size).filter fun f => (P.funcs[f]?).any (·.name.toUTF8.data.toList == x.1)) = [x.2]) = true) (hl : fs.length = n)
    (h : DataW.trod (funcToken P) P W 0 (fun _ => true) true fuel t cs.toList = some (.agg (names.map fun x => .agg [.held x]), p)) : ∀ (j : Nat) (g : FuncId), fs[j]? = some g → cs[j]? = some (.func (.func g) #[] #[]) := by
  obtain ⟨xs, m, _, ex, hlen, hxl, hel⟩ := DataW.trod_array ht h
  intro j g hg
  have hj : j < n := by rw [← hl]; exact lt_of_getElem? hg
  have hE := hel j hj
  rw [hce, Nat.mul_one] at hE
  have hx : xs[j]? = some xs[j] := by simp [hxl, hj]
  rw [hx] at hE
  obtain ⟨ys, m2, _, ey, hlen2, hyl, hel2⟩ := DataW.trod_struct hte hE
  have hE2 := hel2 0 f rfl
  have hyl1 : ys.length = 1 := by simpa using hyl
  obtain ⟨y, rfl⟩ := List.length_eq_one_iff.1 hyl1
  rw [hf0, hft, hcf] at hE2
  have hcl : j < cs.size := by
    rcases Nat.lt_or_ge j cs.size with h1 | h1
    · exact h1
    · simp [hce] at hlen2; omega
  have hc1 : ((cs.toList.drop j).take 1) = [cs[j]] := by
    rw [List.drop_eq_getElem_cons (by simpa using hcl)]; simp
  rw [hc1] at hE2
  simp only [List.drop_zero, List.take_succ_cons, List.getElem?_cons_zero, List.take_nil] at hE2
  have hnm : names[j]? = some names[j] := by simp [hn, hj]
  have e1 : (xs.map (·.1))[j]? = (names.map fun x => DataW.agg [DataW.held x])[j]? := by rw [(DataW.agg.inj (Prod.mk.inj ex).1)]
  rw [List.getElem?_map, List.getElem?_map, hx, hnm, ey] at e1
  simp only [Option.map_some, Option.some.injEq, DataW.agg.injEq, List.map_cons, List.map_nil, List.cons.injEq, and_true] at e1
  have hall := List.all_eq_true.1 hfs (names[j], g) (List.mem_iff_getElem?.2 ⟨j, by rw [List.getElem?_zip_eq_some]; exact ⟨hnm, hg⟩⟩)
  simp only [decide_eq_true_eq] at hall
  cases hnj : names[j] with
  | nil => exact absurd hnj hall.1
  | cons b r =>
    rw [hnj] at hall e1
    have := func_of_trod (f0 := g) (q := y.2) hu hall.2 (by rw [hE2, ← e1])
    rw [Array.getElem?_eq_getElem hcl, this]
end Go.Proofs
namespace Go.Proofs
open Go Go.Ab
set_option linter.unusedSimpArgs false
variable {G : Nat → Option (List IC)}
def zDim : Dim := ⟨0, 0, 0⟩
def dimAt (c : Chains) (x : Link) : Dim := ((takeI c.reg c.lets x.drawing).dims[x.dim.toNat]?).getD zDim
/-- Valid chains. -/
structure OkC (c : Chains) : Prop where
  reg : checkR c.reg = 0
  lets : lettersI c.reg c.lets = true
  of : c.of ∈ nums c.reg
  num : 1 ≤ c.loops.length ∧ c.loops.length ≤ 6
  gap : ∀ x ∈ c.loops, x.links.length ≤ 8 ∧ ckL2 x = true
  link : ∀ x ∈ c.loops, ∀ y ∈ x.links, y.drawing ∈ nums c.reg ∧ 0 ≤ y.dim ∧ y.dim < (takeI c.reg c.lets y.drawing).dims.length
def sizesI (c : Chains) (x : ChLoop) : List Dim := x.links.map (dimAt c)
def endN (high : Bool) (x : Link) (d : Dim) : Int := if high != x.back then d.upper else d.lower
def sgn (x : Link) (n : Int) : Int := if x.back then -n else n
def endsL (links : List Link) (l : List Dim) (high : Bool) : List Int := (links.zip l).map fun p => endN high p.1 p.2
def endS (links : List Link) (l : List Dim) (high : Bool) : Int := (links.zip l).foldl (fun s p => s + sgn p.1 (endN high p.1 p.2)) 0
theorem dimAt_ok {c : Chains} (h : OkC c) {x : ChLoop} (hx : x ∈ c.loops) {y : Link} (hy : y ∈ x.links) : dimOk (dimAt c y) = true ∧ (takeI c.reg c.lets y.drawing).dims[y.dim.toNat]? = some (dimAt c y) := by
  obtain ⟨h1, h2, h3⟩ := h.link x hx y hy
  obtain ⟨hm, _⟩ := take_spec h.reg h.lets h1
  have hok := (scan_all (listed_scan (check_listed h.reg))).2.2.2.1 _ hm
  have hlt : y.dim.toNat < (takeI c.reg c.lets y.drawing).dims.length := by omega
  have he : (takeI c.reg c.lets y.drawing).dims[y.dim.toNat]? = some (takeI c.reg c.lets y.drawing).dims[y.dim.toNat] := by simp [hlt]
  have hd : dimAt c y = (takeI c.reg c.lets y.drawing).dims[y.dim.toNat] := by rw [dimAt, he, Option.getD_some]
  simp only [issueOk, Bool.and_eq_true] at hok
  rw [hd]
  exact ⟨List.all_eq_true.1 hok.2 _ (List.getElem_mem hlt), he⟩
theorem within6_c (n lo hi : Int) (objs : List DObj) : DCall Tryd.prog G 78 [iv n, iv lo, iv hi] objs (fun rr objs' => rr = bv (decide (lo ≤ n) && decide (n ≤ hi)) ∧ objs' = objs) := by
  refine DCall.frame ?_ (by simp) (by simp) objs
  refine DCall_intro Tryd.func78 rfl Tryd.ntmps78 (by simp) rfl ?_
  try simp only [iv, iv, iv]
  have hs : True := trivial
  repeat' first | (with_reducible first | refine q01 ?_ | refine q02 ?_ | refine q03 ?_ | refine q04 ?_ | refine q05 ?_ | refine q06 ?_ | refine q07 (by decide) ?_ | refine q08 ?_ | refine q09 ?_ | refine q10 ?_ | refine q11 ?_ | refine q12 ?_ | refine q13 ?_ | refine q14 ?_ | refine q15 ?_ | refine q16 ?_ | refine q17 ?_ | refine And.intro (by omega) ?_) | (with_reducible refine At.fn_ret (by simp -dsimp [hs]; exact rfl) ?_) | (with_reducible refine At.fn_end (by simp -dsimp [hs]; exact rfl) ?_) | (with_reducible refine DT_regionE [0, 1, 2, 6] ?_; simp -dsimp [hs]) | (refine DT_cond rfl (fun h => ?_) (fun h => ?_) <;> (try simp only [nrm] at h) <;> (try exact Bool.noConfusion h)) | (with_reducible refine GStop_split ?_ ?_ <;> intro h <;> have h0 := h <;> (try simp only [nrm] at h) <;> (try exact Bool.noConfusion h) <;> have h2 := h <;> (try simp at h2) <;> (replace hs := And.intro h0 (And.intro h (And.intro h2 hs))) <;> simp -dsimp [h0, h, h2, hs]) | (with_reducible refine imp_At (fun h => ?_); (try simp only [List.map_eq_nil_iff] at h); (try subst h); try simp -dsimp [hs]) | with_reducible refine And.intro ?_ ?_
  all_goals try simp -dsimp [hs]
  all_goals try clear hs
  all_goals simp [*]
def countI (l : List Itm) (d : Int) : Int := match l with
  | [] => 0
  | y :: r => if y.drawing = d then y.count else countI r d
theorem count_c (l : List Itm) (d : Int) (hl : l.length < 1000000) (objs : List DObj) : DCall Tryd.prog G 93 [.one (.im (.sl (l.map encItem))), iv d] objs (fun rr objs' => rr = iv (countI l d) ∧ objs' = objs) := by
  refine DCall.frame ?_ (by simp) (by simp) objs
  refine DCall_intro Tryd.func93 rfl Tryd.ntmps93 (by simp) rfl ?_
  try simp only [iv]
  have hs : True := trivial
  repeat' first | (with_reducible first | refine q01 ?_ | refine q02 ?_ | refine q03 ?_ | refine q04 ?_ | refine q05 ?_ | refine q06 ?_ | refine q07 (by decide) ?_ | refine q08 ?_ | refine q09 ?_ | refine q10 ?_ | refine q11 ?_ | refine q12 ?_ | refine q13 ?_ | refine q14 ?_ | refine q15 ?_ | refine q16 ?_ | refine q17 ?_ | refine And.intro (by omega) ?_) | (with_reducible refine At.fn_ret (by simp -dsimp [hs]; exact rfl) ?_) | (with_reducible refine At.fn_end (by simp -dsimp [hs]; exact rfl) ?_) | (with_reducible refine DT_regionE [0, 1, 4, 5, 9, 18] ?_; simp -dsimp [hs]) | (refine DT_cond rfl (fun h => ?_) (fun h => ?_) <;> (try simp only [nrm] at h) <;> (try exact Bool.noConfusion h)) | (with_reducible refine GStop_split ?_ ?_ <;> intro h <;> have h0 := h <;> (try simp only [nrm] at h) <;> (try exact Bool.noConfusion h) <;> have h2 := h <;> (try simp at h2) <;> (replace hs := And.intro h0 (And.intro h (And.intro h2 hs))) <;> simp -dsimp [h0, h, h2, hs]) | (with_reducible refine imp_At (fun h => ?_); (try simp only [List.map_eq_nil_iff] at h); (try subst h); try simp -dsimp [hs]) | with_reducible refine And.intro ?_ ?_
  all_goals try simp -dsimp [hs]
  all_goals try clear hs
  refine DT_loop (ι := { k : Nat // k ≤ l.length ∧ countI l d = countI (l.drop k) d }) (fun p => ⟨24, [(0, .one (.im (.sl (l.map encItem)))), (1, iv d), (5, iv (p.1 : Int))], []⟩) (fun p => l.length - p.1) ⟨0, by simp⟩ (Weak.of_keep [0,1,5] (by simp)) ?_
  rintro ⟨k, hk, ha⟩
  simp only [iv]
  by_cases hlt : k < l.length
  · have hx : l[k]? = some l[k] := by simp [hlt]
    have hw : IntKind.i64.wrap ((k : Int) + 1) = ((k + 1 : Nat) : Int) := i64w (by omega) (by omega)
    rw [List.drop_eq_getElem_cons hlt, countI] at ha
    have hs : True := trivial
    repeat' first | (with_reducible first | refine q01 ?_ | refine q02 ?_ | refine q03 ?_ | refine q04 ?_ | refine q05 ?_ | refine q06 ?_ | refine q07 (by decide) ?_ | refine q08 ?_ | refine q09 ?_ | refine q10 ?_ | refine q11 ?_ | refine q12 ?_ | refine q13 ?_ | refine q14 ?_ | refine q15 ?_ | refine q16 ?_ | refine q17 ?_ | refine And.intro (by omega) ?_) | (with_reducible refine At.fn_ret (by simp -dsimp [hx, hw, hlt, hs]; exact rfl) ?_) | (with_reducible refine At.fn_end (by simp -dsimp [hx, hw, hlt, hs]; exact rfl) ?_) | (with_reducible refine DT_regionE [0, 1, 4, 5, 9, 18] ?_; simp -dsimp [hx, hw, hlt, hs]) | (refine DT_cond rfl (fun h => ?_) (fun h => ?_) <;> (try simp only [nrm] at h) <;> (try exact Bool.noConfusion h)) | (with_reducible refine GStop_split ?_ ?_ <;> intro h <;> have h0 := h <;> (try simp only [nrm] at h) <;> (try exact Bool.noConfusion h) <;> have h2 := h <;> (try simp at h2) <;> (replace hs := And.intro h0 (And.intro h (And.intro h2 hs))) <;> simp -dsimp [h0, h, h2, hx, hw, hlt, hs]) | (with_reducible refine imp_At (fun h => ?_); (try simp only [List.map_eq_nil_iff] at h); (try subst h); try simp -dsimp [hx, hw, hlt, hs]) | with_reducible refine And.intro ?_ ?_
    all_goals try simp -dsimp [hx, hw, hlt, hs]
    all_goals try clear hs
    · rw [ha, if_pos ‹_›]
    · exact At.round ⟨k + 1, by omega, by rw [ha, if_neg ‹_›]⟩ (by simp; omega) (Weak.of_keep [0,1,5] (by simp))
  · rw [List.drop_eq_nil_of_le (by omega)] at ha
    have hs : True := trivial
    repeat' first | (with_reducible first | refine q01 ?_ | refine q02 ?_ | refine q03 ?_ | refine q04 ?_ | refine q05 ?_ | refine q06 ?_ | refine q07 (by decide) ?_ | refine q08 ?_ | refine q09 ?_ | refine q10 ?_ | refine q11 ?_ | refine q12 ?_ | refine q13 ?_ | refine q14 ?_ | refine q15 ?_ | refine q16 ?_ | refine q17 ?_ | refine And.intro (by omega) ?_) | (with_reducible refine At.fn_ret (by simp -dsimp [hlt, hs]; exact rfl) ?_) | (with_reducible refine At.fn_end (by simp -dsimp [hlt, hs]; exact rfl) ?_) | (with_reducible refine DT_regionE [0, 1, 4, 5, 9, 18] ?_; simp -dsimp [hlt, hs]) | (refine DT_cond rfl (fun h => ?_) (fun h => ?_) <;> (try simp only [nrm] at h) <;> (try exact Bool.noConfusion h)) | (with_reducible refine GStop_split ?_ ?_ <;> intro h <;> have h0 := h <;> (try simp only [nrm] at h) <;> (try exact Bool.noConfusion h) <;> have h2 := h <;> (try simp at h2) <;> (replace hs := And.intro h0 (And.intro h (And.intro h2 hs))) <;> simp -dsimp [h0, h, h2, hlt, hs]) | (with_reducible refine imp_At (fun h => ?_); (try simp only [List.map_eq_nil_iff] at h); (try subst h); try simp -dsimp [hlt, hs]) | with_reducible refine And.intro ?_ ?_
    all_goals try simp -dsimp [hlt, hs]
    all_goals try clear hs
    rw [ha]; rfl
theorem spotOf_c (x : Link) (objs : List DObj) : DCall Tryd.prog G 113 [linkv x] objs (fun rr objs' => rr = refv x.drawing x.dim ∧ objs' = objs) := by
  refine DCall.frame ?_ (by simp) (by simp) objs
  refine DCall_intro Tryd.func113 rfl Tryd.ntmps113 (by simp) rfl ?_
  try simp only [linkv]
  have hs : True := trivial
  repeat' first | (with_reducible first | refine q01 ?_ | refine q02 ?_ | refine q03 ?_ | refine q04 ?_ | refine q05 ?_ | refine q06 ?_ | refine q07 (by decide) ?_ | refine q08 ?_ | refine q09 ?_ | refine q10 ?_ | refine q11 ?_ | refine q12 ?_ | refine q13 ?_ | refine q14 ?_ | refine q15 ?_ | refine q16 ?_ | refine q17 ?_ | refine And.intro (by omega) ?_) | (with_reducible refine At.fn_ret (by simp -dsimp [hs]; exact rfl) ?_) | (with_reducible refine At.fn_end (by simp -dsimp [hs]; exact rfl) ?_) | (with_reducible refine DT_regionE [0, 1, 2] ?_; simp -dsimp [hs]) | (refine DT_cond rfl (fun h => ?_) (fun h => ?_) <;> (try simp only [nrm] at h) <;> (try exact Bool.noConfusion h)) | (with_reducible refine GStop_split ?_ ?_ <;> intro h <;> have h0 := h <;> (try simp only [nrm] at h) <;> (try exact Bool.noConfusion h) <;> have h2 := h <;> (try simp at h2) <;> (replace hs := And.intro h0 (And.intro h (And.intro h2 hs))) <;> simp -dsimp [h0, h, h2, hs]) | (with_reducible refine imp_At (fun h => ?_); (try simp only [List.map_eq_nil_iff] at h); (try subst h); try simp -dsimp [hs]) | with_reducible refine And.intro ?_ ?_
  all_goals try simp -dsimp [hs]
  all_goals try clear hs
theorem in6_c (d k : Int) (objs : List DObj) : DCall Tryd.prog G 112 [.one (.im (.sl [])), refv d k] objs (fun rr objs' => rr = bv false ∧ objs' = objs) := by
  refine DCall.frame ?_ (by simp) (by simp) objs
  refine DCall_intro Tryd.func112 rfl Tryd.ntmps112 (by simp) rfl ?_
  try simp only [refv]
  have hs : True := trivial
  repeat' first | (with_reducible first | refine q01 ?_ | refine q02 ?_ | refine q03 ?_ | refine q04 ?_ | refine q05 ?_ | refine q06 ?_ | refine q07 (by decide) ?_ | refine q08 ?_ | refine q09 ?_ | refine q10 ?_ | refine q11 ?_ | refine q12 ?_ | refine q13 ?_ | refine q14 ?_ | refine q15 ?_ | refine q16 ?_ | refine q17 ?_ | refine And.intro (by omega) ?_) | (with_reducible refine At.fn_ret (by simp -dsimp [hs]; exact rfl) ?_) | (with_reducible refine At.fn_end (by simp -dsimp [hs]; exact rfl) ?_) | (refine DT_regionM (id := 4) (nt := 18) 6 [0, 1, 3, 4, 5, 9, 17] mixed rfl (by kernel_rfl) ?_; simp -dsimp [hs]) | (with_reducible refine DT_regionE [0, 1, 3, 4, 5, 9, 17] ?_; simp -dsimp [hs]) | (refine DT_cond rfl (fun h => ?_) (fun h => ?_) <;> (try simp only [nrm] at h) <;> (try exact Bool.noConfusion h)) | (with_reducible refine GStop_split ?_ ?_ <;> intro h <;> have h0 := h <;> (try simp only [nrm] at h) <;> (try exact Bool.noConfusion h) <;> have h2 := h <;> (try simp at h2) <;> (replace hs := And.intro h0 (And.intro h (And.intro h2 hs))) <;> simp -dsimp [h0, h, h2, hs]) | (with_reducible refine imp_At (fun h => ?_); (try simp only [List.map_eq_nil_iff] at h); (try subst h); try simp -dsimp [hs]) | with_reducible refine And.intro ?_ ?_
  all_goals try simp -dsimp [hs]
  all_goals try clear hs
  refine DT_loop (ι := Unit) (fun _ => ⟨18, [(0, .one (.im (.sl []))), (5, iv 0)], []⟩) (fun _ => 0) () (Weak.of_drop [0,5] 0 (by simp) (by simp) (by simp)) ?_
  intro _
  simp only [iv]
  have hs : True := trivial
  repeat' first | (with_reducible first | refine q01 ?_ | refine q02 ?_ | refine q03 ?_ | refine q04 ?_ | refine q05 ?_ | refine q06 ?_ | refine q07 (by decide) ?_ | refine q08 ?_ | refine q09 ?_ | refine q10 ?_ | refine q11 ?_ | refine q12 ?_ | refine q13 ?_ | refine q14 ?_ | refine q15 ?_ | refine q16 ?_ | refine q17 ?_ | refine And.intro (by omega) ?_) | (with_reducible refine At.fn_ret (by simp -dsimp [hs]; exact rfl) ?_) | (with_reducible refine At.fn_end (by simp -dsimp [hs]; exact rfl) ?_) | (refine DT_regionM (id := 4) (nt := 18) 6 [0, 1, 3, 4, 5, 9, 17] mixed rfl (by kernel_rfl) ?_; simp -dsimp [hs]) | (with_reducible refine DT_regionE [0, 1, 3, 4, 5, 9, 17] ?_; simp -dsimp [hs]) | (refine DT_cond rfl (fun h => ?_) (fun h => ?_) <;> (try simp only [nrm] at h) <;> (try exact Bool.noConfusion h)) | (with_reducible refine GStop_split ?_ ?_ <;> intro h <;> have h0 := h <;> (try simp only [nrm] at h) <;> (try exact Bool.noConfusion h) <;> have h2 := h <;> (try simp at h2) <;> (replace hs := And.intro h0 (And.intro h (And.intro h2 hs))) <;> simp -dsimp [h0, h, h2, hs]) | (with_reducible refine imp_At (fun h => ?_); (try simp only [List.map_eq_nil_iff] at h); (try subst h); try simp -dsimp [hs]) | with_reducible refine And.intro ?_ ?_
  all_goals try simp -dsimp [hs]
  all_goals try clear hs
theorem sizeOf_c (c : Chains) (y : Link) (d : Dim) (hl : c.reg.length < 1000000) (hd : y.drawing ∈ nums c.reg) (hll : c.lets.length = (nums c.reg).length) (h0 : 0 ≤ y.dim) (he : (takeI c.reg c.lets y.drawing).dims[y.dim.toNat]? = some d) (objs : List DObj) : DCall Tryd.prog G 111 [chv c, linkv y] objs (fun rr objs' => rr = dimv d ∧ objs' = objs) := by
  refine DCall.frame ?_ (by simp) (by simp) objs
  refine DCall_intro Tryd.func111 rfl Tryd.ntmps111 (by simp) rfl ?_
  try simp only [chv, linkv]
  have c1 := taken_c (G := G) c.reg c.lets y.drawing hl hd hll
  obtain ⟨k, hk⟩ : ∃ k : Nat, y.dim = k := ⟨y.dim.toNat, by omega⟩
  rw [hk, Int.toNat_natCast] at he
  have hlt := lt_of_getElem? he
  generalize takeI c.reg c.lets y.drawing = x at *
  have hs : True := trivial
  repeat' first | (with_reducible first | refine q01 ?_ | refine q02 ?_ | refine q03 ?_ | refine q04 ?_ | refine q05 ?_ | refine q06 ?_ | refine q07 (by decide) ?_ | refine q08 ?_ | refine q09 ?_ | refine q10 ?_ | refine q11 ?_ | refine q12 ?_ | refine q13 ?_ | refine q14 ?_ | refine q15 ?_ | refine q16 ?_ | refine q17 ?_ | refine And.intro (by omega) ?_) | (with_reducible refine At.fn_ret (by simp -dsimp [hk, he, hlt, hs]; exact rfl) ?_) | (with_reducible refine At.fn_end (by simp -dsimp [hk, he, hlt, hs]; exact rfl) ?_) | (refine QCall_pure (c1) ?_; try simp -dsimp [hk, he, hlt, hs]) | (refine DT_regionM (id := 1) (nt := 17) 12 [0, 1, 2, 3, 4] mixed rfl (by kernel_rfl) ?_; simp -dsimp [hk, he, hlt, hs]) | (with_reducible refine DT_regionE [0, 1, 2, 3, 4] ?_; simp -dsimp [hk, he, hlt, hs]) | (refine DT_cond rfl (fun h => ?_) (fun h => ?_) <;> (try simp only [nrm] at h) <;> (try exact Bool.noConfusion h)) | (with_reducible refine GStop_split ?_ ?_ <;> intro h <;> have h0 := h <;> (try simp only [nrm] at h) <;> (try exact Bool.noConfusion h) <;> have h2 := h <;> (try simp at h2) <;> (replace hs := And.intro h0 (And.intro h (And.intro h2 hs))) <;> simp -dsimp [h0, h, h2, hk, he, hlt, hs]) | (with_reducible refine imp_At (fun h => ?_); (try simp only [List.map_eq_nil_iff] at h); (try subst h); try simp -dsimp [hk, he, hlt, hs]) | with_reducible refine And.intro ?_ ?_
  all_goals try simp -dsimp [hk, he, hlt, hs]
  all_goals try clear hs
  obtain ⟨_, e⟩ := List.getElem?_eq_some_iff.1 he
  rw [e]; simp
set_option maxHeartbeats 1000000 in
theorem rsizes_c (c : Chains) (n : Nat) (hn : n < c.loops.length) (hs : SmallC c) (h : OkC c) (objs : List DObj) : DCall Tryd.prog G 79 [chv c, iv (n : Int), .one (.im (.sl [])), iv 0] objs (fun rr objs' => rr = .one (.im (.sl ((sizesI c c.loops[n]).map encDim))) ∧ objs' = objs) := by
  refine DCall.frame ?_ (by simp) (by simp) objs
  refine DCall_intro Tryd.func79 rfl Tryd.ntmps79 (by simp) rfl ?_
  try simp only [chv, iv, iv]
  have hx : c.loops[n]? = some c.loops[n] := by simp [hn]
  have hln := h.gap c.loops[n] (List.getElem_mem hn)
  have hll : c.lets.length = (nums c.reg).length := by
    have := h.lets
    simp only [lettersI, Bool.and_eq_true, decide_eq_true_eq] at this; exact this.1
  have hreg := hs.1.1
  have hok := fun y hy => dimAt_ok h (List.getElem_mem hn) (y := y) hy
  have hlk := h.link c.loops[n] (List.getElem_mem hn)
  have hE : sizesI c c.loops[n] = c.loops[n].links.map (dimAt c) := rfl
  have hs : True := trivial
  repeat' first | (with_reducible first | refine q01 ?_ | refine q02 ?_ | refine q03 ?_ | refine q04 ?_ | refine q05 ?_ | refine q06 ?_ | refine q07 (by decide) ?_ | refine q08 ?_ | refine q09 ?_ | refine q10 ?_ | refine q11 ?_ | refine q12 ?_ | refine q13 ?_ | refine q14 ?_ | refine q15 ?_ | refine q16 ?_ | refine q17 ?_ | refine And.intro (by omega) ?_) | (with_reducible refine At.fn_ret (by simp -dsimp [hx, hn, hs]; exact rfl) ?_) | (with_reducible refine At.fn_end (by simp -dsimp [hx, hn, hs]; exact rfl) ?_) | (refine DT_regionX (id := 6) (nt := 46) 7 [] [0, 1, 2, 3, 4, 8, 9, 10, 11, 12, 22, 25, 26, 27, 28, 29, 30, 37] [0, 1, 2, 3, 4, 8, 9, 10, 11, 12, 22, 37] mixed rfl (by kernel_rfl) ?_; simp -dsimp [hx, hn, hs]) | (with_reducible refine DT_regionE [0, 1, 2, 3, 4, 8, 9, 10, 11, 12, 22, 37] ?_; simp -dsimp [hx, hn, hs]) | (refine DT_cond rfl (fun h => ?_) (fun h => ?_) <;> (try simp only [nrm] at h) <;> (try exact Bool.noConfusion h)) | (with_reducible refine GStop_split ?_ ?_ <;> intro h <;> have h0 := h <;> (try simp only [nrm] at h) <;> (try exact Bool.noConfusion h) <;> have h2 := h <;> (try simp at h2) <;> (replace hs := And.intro h0 (And.intro h (And.intro h2 hs))) <;> simp -dsimp [h0, h, h2, hx, hn, hs]) | (with_reducible refine imp_At (fun h => ?_); (try simp only [List.map_eq_nil_iff] at h); (try subst h); try simp -dsimp [hx, hn, hs]) | with_reducible refine And.intro ?_ ?_
  all_goals try simp -dsimp [hx, hn, hs]
  all_goals try clear hs
  generalize hls : c.loops[n].links = ls at *
  refine DT_loop (ι := { p : Nat × Nat × Bool × List Dim // p.1 ≤ ls.length ∧ p.2.2.2 = (ls.take p.1).map (dimAt c) }) (fun p => ⟨46, [(2, .one (.im (.sl []))), (4, .one (.ptr 0 0)), (9, .one (.vec 2 p.1.2.1 0 p.1.2.2.2.length)), (10, .one (.im (.sl (ls.map encLink)))), (11, iv (p.1.1 : Int))], [.row ((encChains c).map .im), .vec 3 [] 0 true, .vec 3 (ims (p.1.2.2.2.map encDim)) p.1.2.1 p.1.2.2.1]⟩) (fun p => ls.length - p.1.1) ⟨(0, 0, true, []), by simp⟩ (Weak.of_keep [2,4,9,10,11] (by simp)) ?_
  rintro ⟨⟨k, g, nl, out⟩, hk, ho⟩
  simp only at hk ho
  simp only [iv]
  have hol : out.length = k := by rw [ho]; simp; omega
  by_cases hlt : k < ls.length
  · have hy : ls[k]? = some ls[k] := by simp [hlt]
    have hw : IntKind.i64.wrap ((k : Int) + 1) = ((k + 1 : Nat) : Int) := i64w (by omega) (by omega)
    obtain ⟨l1, l2, l3⟩ := hlk ls[k] (List.getElem_mem hlt)
    obtain ⟨_, he⟩ := hok ls[k] (List.getElem_mem hlt)
    have c1 := sizeOf_c (G := G) c ls[k] (dimAt c ls[k]) (by omega) l1 hll l2 he
    have c2 := spotOf_c (G := G) ls[k]
    have c3 := in6_c (G := G) ls[k].drawing ls[k].dim
    simp only [refv] at c2 c3
    have hon : out ++ [dimAt c ls[k]] = (ls.take (k + 1)).map (dimAt c) := by rw [List.take_succ_eq_append_getElem hlt, List.map_append, ho]; rfl
    have hs : True := trivial
    repeat' first | (with_reducible first | refine q01 ?_ | refine q02 ?_ | refine q03 ?_ | refine q04 ?_ | refine q05 ?_ | refine q06 ?_ | refine q07 (by decide) ?_ | refine q08 ?_ | refine q09 ?_ | refine q10 ?_ | refine q11 ?_ | refine q12 ?_ | refine q13 ?_ | refine q14 ?_ | refine q15 ?_ | refine q16 ?_ | refine q17 ?_ | refine And.intro (by omega) ?_) | (with_reducible refine At.fn_ret (by simp -dsimp [hy, hw, hlt, hs]; exact rfl) ?_) | (with_reducible refine At.fn_end (by simp -dsimp [hy, hw, hlt, hs]; exact rfl) ?_) | (refine QCall_pure (c1) ?_; try simp -dsimp [hy, hw, hlt, hs]) | (refine CallE.pure (c2) ?_; try simp -dsimp [hy, hw, hlt, hs]) | (refine CallE.pure (c3) ?_; try simp -dsimp [hy, hw, hlt, hs]) | (refine DT_regionX (id := 6) (nt := 46) 7 [] [0, 1, 2, 3, 4, 8, 9, 10, 11, 12, 22, 25, 26, 27, 28, 29, 30, 37] [0, 1, 2, 3, 4, 8, 9, 10, 11, 12, 22, 37] mixed rfl (by kernel_rfl) ?_; simp -dsimp [hy, hw, hlt, hs]) | (with_reducible refine DT_regionE [0, 1, 2, 3, 4, 8, 9, 10, 11, 12, 22, 37] ?_; simp -dsimp [hy, hw, hlt, hs]) | (refine DT_cond rfl (fun h => ?_) (fun h => ?_) <;> (try simp only [nrm] at h) <;> (try exact Bool.noConfusion h)) | (with_reducible refine GStop_split ?_ ?_ <;> intro h <;> have h0 := h <;> (try simp only [nrm] at h) <;> (try exact Bool.noConfusion h) <;> have h2 := h <;> (try simp at h2) <;> (replace hs := And.intro h0 (And.intro h (And.intro h2 hs))) <;> simp -dsimp [h0, h, h2, hy, hw, hlt, hs]) | (with_reducible refine imp_At (fun h => ?_); (try simp only [List.map_eq_nil_iff] at h); (try subst h); try simp -dsimp [hy, hw, hlt, hs]) | with_reducible refine And.intro ?_ ?_
    all_goals try simp -dsimp [hy, hw, hlt, hs]
    all_goals try clear hs
    all_goals try omega
    exact At.round ⟨(k + 1, g + 1, false, out ++ [dimAt c ls[k]]), by omega, hon⟩ (by simp; omega) (Weak.of_drop [2,4,9,10,11] 3 (by simp) (by simp) (by simp))
  · have hs : True := trivial
    repeat' first | (with_reducible first | refine q01 ?_ | refine q02 ?_ | refine q03 ?_ | refine q04 ?_ | refine q05 ?_ | refine q06 ?_ | refine q07 (by decide) ?_ | refine q08 ?_ | refine q09 ?_ | refine q10 ?_ | refine q11 ?_ | refine q12 ?_ | refine q13 ?_ | refine q14 ?_ | refine q15 ?_ | refine q16 ?_ | refine q17 ?_ | refine And.intro (by omega) ?_) | (with_reducible refine At.fn_ret (by simp -dsimp [hlt, hs]; exact rfl) ?_) | (with_reducible refine At.fn_end (by simp -dsimp [hlt, hs]; exact rfl) ?_) | (refine DT_regionX (id := 6) (nt := 46) 7 [] [0, 1, 2, 3, 4, 8, 9, 10, 11, 12, 22, 25, 26, 27, 28, 29, 30, 37] [0, 1, 2, 3, 4, 8, 9, 10, 11, 12, 22, 37] mixed rfl (by kernel_rfl) ?_; simp -dsimp [hlt, hs]) | (with_reducible refine DT_regionE [0, 1, 2, 3, 4, 8, 9, 10, 11, 12, 22, 37] ?_; simp -dsimp [hlt, hs]) | (refine DT_cond rfl (fun h => ?_) (fun h => ?_) <;> (try simp only [nrm] at h) <;> (try exact Bool.noConfusion h)) | (with_reducible refine GStop_split ?_ ?_ <;> intro h <;> have h0 := h <;> (try simp only [nrm] at h) <;> (try exact Bool.noConfusion h) <;> have h2 := h <;> (try simp at h2) <;> (replace hs := And.intro h0 (And.intro h (And.intro h2 hs))) <;> simp -dsimp [h0, h, h2, hlt, hs]) | (with_reducible refine imp_At (fun h => ?_); (try simp only [List.map_eq_nil_iff] at h); (try subst h); try simp -dsimp [hlt, hs]) | with_reducible refine And.intro ?_ ?_
    all_goals try simp -dsimp [hlt, hs]
    all_goals try clear hs
    all_goals try omega
    rw [hE, ho, List.take_of_length_le (by omega)]
theorem endN_bd {high : Bool} {x : Link} {d : Dim} (h : dimOk d = true) : 0 ≤ endN high x d ∧ endN high x d ≤ 1000000000 := by
  have := (dimOk_iff d).1 h
  unfold endN; split <;> omega
theorem sgn_bd {high : Bool} {x : Link} {d : Dim} (h : dimOk d = true) : -1000000000 ≤ sgn x (endN high x d) ∧ sgn x (endN high x d) ≤ 1000000000 := by
  have := endN_bd (high := high) (x := x) h
  unfold sgn; split <;> omega
set_option maxHeartbeats 1000000 in
theorem ends_c (ls : List Link) (l : List Dim) (high : Bool) (hl : ls.length ≤ 12) (he : l.length = ls.length) (hd : ∀ d ∈ l, dimOk d = true) (objs : List DObj) : DCall Tryd.prog G 80 [.one (.im (.sl (ls.map encLink))), .one (.im (.sl (l.map encDim))), bv high] objs (fun rr objs' => rr = .tup [isv (endsL ls l high), iv (endS ls l high)] ∧ objs' = objs) := by
  refine DCall.frame ?_ (by simp) (by simp) objs
  refine DCall_intro Tryd.func80 rfl Tryd.ntmps80 (by simp) rfl ?_
  try simp only [bv]
  have hs : True := trivial
  repeat' first | (with_reducible first | refine q01 ?_ | refine q02 ?_ | refine q03 ?_ | refine q04 ?_ | refine q05 ?_ | refine q06 ?_ | refine q07 (by decide) ?_ | refine q08 ?_ | refine q09 ?_ | refine q10 ?_ | refine q11 ?_ | refine q12 ?_ | refine q13 ?_ | refine q14 ?_ | refine q15 ?_ | refine q16 ?_ | refine q17 ?_ | refine And.intro (by omega) ?_) | (with_reducible refine At.fn_ret (by simp -dsimp [hs]; exact rfl) ?_) | (with_reducible refine At.fn_end (by simp -dsimp [hs]; exact rfl) ?_) | (with_reducible refine DT_regionE [0, 1, 2, 6, 7, 8, 9, 10, 11, 15, 29, 43] ?_; simp -dsimp [hs]) | (refine DT_cond rfl (fun h => ?_) (fun h => ?_) <;> (try simp only [nrm] at h) <;> (try exact Bool.noConfusion h)) | (with_reducible refine GStop_split ?_ ?_ <;> intro h <;> have h0 := h <;> (try simp only [nrm] at h) <;> (try exact Bool.noConfusion h) <;> have h2 := h <;> (try simp at h2) <;> (replace hs := And.intro h0 (And.intro h (And.intro h2 hs))) <;> simp -dsimp [h0, h, h2, hs]) | (with_reducible refine imp_At (fun h => ?_); (try simp only [List.map_eq_nil_iff] at h); (try subst h); try simp -dsimp [hs]) | with_reducible refine And.intro ?_ ?_
  all_goals try simp -dsimp [hs]
  all_goals try clear hs
  refine DT_loop (ι := { p : Nat × Nat × Bool × List Int × Int // p.1 ≤ ls.length ∧ p.2.2.2.1.length = p.1 ∧ endsL ls l high = p.2.2.2.1 ++ ((ls.zip l).drop p.1).map (fun q => endN high q.1 q.2) ∧ endS ls l high = ((ls.zip l).drop p.1).foldl (fun s q => s + sgn q.1 (endN high q.1 q.2)) p.2.2.2.2 ∧ -1000000000 * (p.1 : Int) ≤ p.2.2.2.2 ∧ p.2.2.2.2 ≤ 1000000000 * (p.1 : Int) }) (fun p => ⟨51, [(0, .one (.im (.sl (ls.map encLink)))), (1, .one (.im (.sl (l.map encDim)))), (2, bv high), (8, .one (.vec 1 p.1.2.1 0 p.1.2.2.2.1.length)), (9, iv p.1.2.2.2.2), (10, iv (p.1.1 : Int))], [.vec 1 [] 0 true, .vec 1 (ims (p.1.2.2.2.1.map encI)) p.1.2.1 p.1.2.2.1]⟩) (fun p => ls.length - p.1.1) ⟨(0, 0, true, [], 0), by simp [endsL, endS]⟩ (Weak.of_keep [0,1,2,8,9,10] (by simp)) ?_
  rintro ⟨⟨k, g, nl, out, s⟩, hk, hol, ho, hs, hb1, hb2⟩
  simp only at hk hol ho hs hb1 hb2
  simp only [iv, bv]
  by_cases hlt : k < ls.length
  · have hkl : k < l.length := by omega
    have hx : ls[k]? = some ls[k] := by simp [hlt]
    have hy : l[k]? = some l[k] := by simp [hkl]
    have hw : IntKind.i64.wrap ((k : Int) + 1) = ((k + 1 : Nat) : Int) := i64w (by omega) (by omega)
    have hz : k < (ls.zip l).length := by simp; omega
    rw [List.drop_eq_getElem_cons hz, List.getElem_zip, List.map_cons] at ho
    rw [List.drop_eq_getElem_cons hz, List.getElem_zip, List.foldl_cons] at hs
    have hdk := hd l[k] (List.getElem_mem hkl)
    have hdl := (dimOk_iff _).1 hdk
    have hsb := sgn_bd (high := high) (x := ls[k]) hdk
    have hws : IntKind.i64.wrap (s + sgn ls[k] (endN high ls[k] l[k])) = s + sgn ls[k] (endN high ls[k] l[k]) := i64w (by omega) (by omega)
    have hon : endsL ls l high = (out ++ [endN high ls[k] l[k]]) ++ ((ls.zip l).drop (k + 1)).map (fun q => endN high q.1 q.2) := by rw [ho]; simp
    have hwl : IntKind.i64.wrap (-l[k].lower) = -l[k].lower := i64w (by omega) (by omega)
    have hwu : IntKind.i64.wrap (-l[k].upper) = -l[k].upper := i64w (by omega) (by omega)
    have hfin : k + 1 ≤ ls.length ∧ (out ++ [endN high ls[k] l[k]]).length = k + 1 ∧ endsL ls l high = (out ++ [endN high ls[k] l[k]]) ++ ((ls.zip l).drop (k + 1)).map (fun q => endN high q.1 q.2) ∧ endS ls l high = ((ls.zip l).drop (k + 1)).foldl (fun s q => s + sgn q.1 (endN high q.1 q.2)) (s + sgn ls[k] (endN high ls[k] l[k])) ∧ -1000000000 * ((k + 1 : Nat) : Int) ≤ s + sgn ls[k] (endN high ls[k] l[k]) ∧ s + sgn ls[k] (endN high ls[k] l[k]) ≤ 1000000000 * ((k + 1 : Nat) : Int) := ⟨by omega, by simp; omega, hon, hs, by omega, by omega⟩
    cases hbk : ls[k].back <;> cases high
    all_goals have hN : ∀ h, endN h ls[k] l[k] = if h != ls[k].back then l[k].upper else l[k].lower := fun _ => rfl
    all_goals have hS : ∀ n, sgn ls[k] n = if ls[k].back then -n else n := fun _ => rfl
    all_goals simp only [hN, hS, hbk, bne_self_eq_false, Bool.false_eq_true, if_false, if_true, Bool.true_bne, Bool.false_bne, Bool.not_false] at hws hfin
    all_goals clear hN hS ho hs hon hsb
    · have hs : True := trivial
      repeat' first | (with_reducible first | refine q01 ?_ | refine q02 ?_ | refine q03 ?_ | refine q04 ?_ | refine q05 ?_ | refine q06 ?_ | refine q07 (by decide) ?_ | refine q08 ?_ | refine q09 ?_ | refine q10 ?_ | refine q11 ?_ | refine q12 ?_ | refine q13 ?_ | refine q14 ?_ | refine q15 ?_ | refine q16 ?_ | refine q17 ?_ | refine And.intro (by omega) ?_) | (with_reducible refine At.fn_ret (by simp -dsimp [hx, hy, hw, hlt, hkl, hbk, hws, hs]; exact rfl) ?_) | (with_reducible refine At.fn_end (by simp -dsimp [hx, hy, hw, hlt, hkl, hbk, hws, hs]; exact rfl) ?_) | (with_reducible refine DT_regionE [0, 1, 2, 6, 7, 8, 9, 10, 11, 15, 29, 43] ?_; simp -dsimp [hx, hy, hw, hlt, hkl, hbk, hws, hs]) | (refine DT_cond rfl (fun h => ?_) (fun h => ?_) <;> (try simp only [nrm] at h) <;> (try exact Bool.noConfusion h)) | (with_reducible refine GStop_split ?_ ?_ <;> intro h <;> have h0 := h <;> (try simp only [nrm] at h) <;> (try exact Bool.noConfusion h) <;> have h2 := h <;> (try simp at h2) <;> (replace hs := And.intro h0 (And.intro h (And.intro h2 hs))) <;> simp -dsimp [h0, h, h2, hx, hy, hw, hlt, hkl, hbk, hws, hs]) | (with_reducible refine imp_At (fun h => ?_); (try simp only [List.map_eq_nil_iff] at h); (try subst h); try simp -dsimp [hx, hy, hw, hlt, hkl, hbk, hws, hs]) | with_reducible refine And.intro ?_ ?_
      all_goals try simp -dsimp [hx, hy, hw, hlt, hkl, hbk, hws, hs]
      all_goals try clear hs
      all_goals try omega
      exact At.round ⟨(k + 1, g + 1, false, out ++ [l[k].lower], s + l[k].lower), hfin⟩ (by simp; omega) (Weak.of_drop [0,1,2,8,9,10] 2 (by simp) (by simp) (by simp))
    · have hs : True := trivial
      repeat' first | (with_reducible first | refine q01 ?_ | refine q02 ?_ | refine q03 ?_ | refine q04 ?_ | refine q05 ?_ | refine q06 ?_ | refine q07 (by decide) ?_ | refine q08 ?_ | refine q09 ?_ | refine q10 ?_ | refine q11 ?_ | refine q12 ?_ | refine q13 ?_ | refine q14 ?_ | refine q15 ?_ | refine q16 ?_ | refine q17 ?_ | refine And.intro (by omega) ?_) | (with_reducible refine At.fn_ret (by simp -dsimp [hx, hy, hw, hlt, hkl, hbk, hws, hs]; exact rfl) ?_) | (with_reducible refine At.fn_end (by simp -dsimp [hx, hy, hw, hlt, hkl, hbk, hws, hs]; exact rfl) ?_) | (with_reducible refine DT_regionE [0, 1, 2, 6, 7, 8, 9, 10, 11, 15, 29, 43] ?_; simp -dsimp [hx, hy, hw, hlt, hkl, hbk, hws, hs]) | (refine DT_cond rfl (fun h => ?_) (fun h => ?_) <;> (try simp only [nrm] at h) <;> (try exact Bool.noConfusion h)) | (with_reducible refine GStop_split ?_ ?_ <;> intro h <;> have h0 := h <;> (try simp only [nrm] at h) <;> (try exact Bool.noConfusion h) <;> have h2 := h <;> (try simp at h2) <;> (replace hs := And.intro h0 (And.intro h (And.intro h2 hs))) <;> simp -dsimp [h0, h, h2, hx, hy, hw, hlt, hkl, hbk, hws, hs]) | (with_reducible refine imp_At (fun h => ?_); (try simp only [List.map_eq_nil_iff] at h); (try subst h); try simp -dsimp [hx, hy, hw, hlt, hkl, hbk, hws, hs]) | with_reducible refine And.intro ?_ ?_
      all_goals try simp -dsimp [hx, hy, hw, hlt, hkl, hbk, hws, hs]
      all_goals try clear hs
      all_goals try omega
      exact At.round ⟨(k + 1, g + 1, false, out ++ [l[k].upper], s + l[k].upper), hfin⟩ (by simp; omega) (Weak.of_drop [0,1,2,8,9,10] 2 (by simp) (by simp) (by simp))
    · have hs : True := trivial
      repeat' first | (with_reducible first | refine q01 ?_ | refine q02 ?_ | refine q03 ?_ | refine q04 ?_ | refine q05 ?_ | refine q06 ?_ | refine q07 (by decide) ?_ | refine q08 ?_ | refine q09 ?_ | refine q10 ?_ | refine q11 ?_ | refine q12 ?_ | refine q13 ?_ | refine q14 ?_ | refine q15 ?_ | refine q16 ?_ | refine q17 ?_ | refine And.intro (by omega) ?_) | (with_reducible refine At.fn_ret (by simp -dsimp [hx, hy, hw, hlt, hkl, hbk, hws, hwl, hwu, hs]; exact rfl) ?_) | (with_reducible refine At.fn_end (by simp -dsimp [hx, hy, hw, hlt, hkl, hbk, hws, hwl, hwu, hs]; exact rfl) ?_) | (with_reducible refine DT_regionE [0, 1, 2, 6, 7, 8, 9, 10, 11, 15, 29, 43] ?_; simp -dsimp [hx, hy, hw, hlt, hkl, hbk, hws, hwl, hwu, hs]) | (refine DT_cond rfl (fun h => ?_) (fun h => ?_) <;> (try simp only [nrm] at h) <;> (try exact Bool.noConfusion h)) | (with_reducible refine GStop_split ?_ ?_ <;> intro h <;> have h0 := h <;> (try simp only [nrm] at h) <;> (try exact Bool.noConfusion h) <;> have h2 := h <;> (try simp at h2) <;> (replace hs := And.intro h0 (And.intro h (And.intro h2 hs))) <;> simp -dsimp [h0, h, h2, hx, hy, hw, hlt, hkl, hbk, hws, hwl, hwu, hs]) | (with_reducible refine imp_At (fun h => ?_); (try simp only [List.map_eq_nil_iff] at h); (try subst h); try simp -dsimp [hx, hy, hw, hlt, hkl, hbk, hws, hwl, hwu, hs]) | with_reducible refine And.intro ?_ ?_
      all_goals try simp -dsimp [hx, hy, hw, hlt, hkl, hbk, hws, hwl, hwu, hs]
      all_goals try clear hs
      all_goals try omega
      exact At.round ⟨(k + 1, g + 1, false, out ++ [l[k].upper], s + -l[k].upper), hfin⟩ (by simp; omega) (Weak.of_drop [0,1,2,8,9,10] 2 (by simp) (by simp) (by simp))
    · have hs : True := trivial
      repeat' first | (with_reducible first | refine q01 ?_ | refine q02 ?_ | refine q03 ?_ | refine q04 ?_ | refine q05 ?_ | refine q06 ?_ | refine q07 (by decide) ?_ | refine q08 ?_ | refine q09 ?_ | refine q10 ?_ | refine q11 ?_ | refine q12 ?_ | refine q13 ?_ | refine q14 ?_ | refine q15 ?_ | refine q16 ?_ | refine q17 ?_ | refine And.intro (by omega) ?_) | (with_reducible refine At.fn_ret (by simp -dsimp [hx, hy, hw, hlt, hkl, hbk, hws, hwl, hwu, hs]; exact rfl) ?_) | (with_reducible refine At.fn_end (by simp -dsimp [hx, hy, hw, hlt, hkl, hbk, hws, hwl, hwu, hs]; exact rfl) ?_) | (with_reducible refine DT_regionE [0, 1, 2, 6, 7, 8, 9, 10, 11, 15, 29, 43] ?_; simp -dsimp [hx, hy, hw, hlt, hkl, hbk, hws, hwl, hwu, hs]) | (refine DT_cond rfl (fun h => ?_) (fun h => ?_) <;> (try simp only [nrm] at h) <;> (try exact Bool.noConfusion h)) | (with_reducible refine GStop_split ?_ ?_ <;> intro h <;> have h0 := h <;> (try simp only [nrm] at h) <;> (try exact Bool.noConfusion h) <;> have h2 := h <;> (try simp at h2) <;> (replace hs := And.intro h0 (And.intro h (And.intro h2 hs))) <;> simp -dsimp [h0, h, h2, hx, hy, hw, hlt, hkl, hbk, hws, hwl, hwu, hs]) | (with_reducible refine imp_At (fun h => ?_); (try simp only [List.map_eq_nil_iff] at h); (try subst h); try simp -dsimp [hx, hy, hw, hlt, hkl, hbk, hws, hwl, hwu, hs]) | with_reducible refine And.intro ?_ ?_
      all_goals try simp -dsimp [hx, hy, hw, hlt, hkl, hbk, hws, hwl, hwu, hs]
      all_goals try clear hs
      all_goals try omega
      exact At.round ⟨(k + 1, g + 1, false, out ++ [l[k].lower], s + -l[k].lower), hfin⟩ (by simp; omega) (Weak.of_drop [0,1,2,8,9,10] 2 (by simp) (by simp) (by simp))
  · rw [List.drop_eq_nil_of_le (by simp; omega)] at ho hs
    have hs : True := trivial
    repeat' first | (with_reducible first | refine q01 ?_ | refine q02 ?_ | refine q03 ?_ | refine q04 ?_ | refine q05 ?_ | refine q06 ?_ | refine q07 (by decide) ?_ | refine q08 ?_ | refine q09 ?_ | refine q10 ?_ | refine q11 ?_ | refine q12 ?_ | refine q13 ?_ | refine q14 ?_ | refine q15 ?_ | refine q16 ?_ | refine q17 ?_ | refine And.intro (by omega) ?_) | (with_reducible refine At.fn_ret (by simp -dsimp [hlt, hs]; exact rfl) ?_) | (with_reducible refine At.fn_end (by simp -dsimp [hlt, hs]; exact rfl) ?_) | (with_reducible refine DT_regionE [0, 1, 2, 6, 7, 8, 9, 10, 11, 15, 29, 43] ?_; simp -dsimp [hlt, hs]) | (refine DT_cond rfl (fun h => ?_) (fun h => ?_) <;> (try simp only [nrm] at h) <;> (try exact Bool.noConfusion h)) | (with_reducible refine GStop_split ?_ ?_ <;> intro h <;> have h0 := h <;> (try simp only [nrm] at h) <;> (try exact Bool.noConfusion h) <;> have h2 := h <;> (try simp at h2) <;> (replace hs := And.intro h0 (And.intro h (And.intro h2 hs))) <;> simp -dsimp [h0, h, h2, hlt, hs]) | (with_reducible refine imp_At (fun h => ?_); (try simp only [List.map_eq_nil_iff] at h); (try subst h); try simp -dsimp [hlt, hs]) | with_reducible refine And.intro ?_ ?_
    all_goals try simp -dsimp [hlt, hs]
    all_goals try clear hs
    all_goals try omega
    rw [ho, hs]; simp
theorem sizes_ok {c : Chains} (h : OkC c) {n : Nat} (hn : n < c.loops.length) : (sizesI c c.loops[n]).length = c.loops[n].links.length ∧ ∀ d ∈ sizesI c c.loops[n], dimOk d = true := by
  refine ⟨by simp [sizesI], fun d hd => ?_⟩
  obtain ⟨y, hy, rfl⟩ := List.mem_map.1 hd
  exact (dimAt_ok h (List.getElem_mem hn) hy).1
def spanI (c : Chains) (x : ChLoop) : DV := refv (endS x.links (sizesI c x) false) (endS x.links (sizesI c x) true)
theorem rreach_c (c : Chains) (n : Nat) (hn : n < c.loops.length) (hs : SmallC c) (h : OkC c) (objs : List DObj) : DCall Tryd.prog G 45 [chv c, iv (n : Int), .one (.im (.sl [])), iv 0] objs (fun rr objs' => rr = refv (endS c.loops[n].links (sizesI c c.loops[n]) false) (endS c.loops[n].links (sizesI c c.loops[n]) true) ∧ objs' = objs) := by
  refine DCall.frame ?_ (by simp) (by simp) objs
  refine DCall_intro Tryd.func45 rfl Tryd.ntmps45 (by simp) rfl ?_
  try simp only [chv, iv, iv]
  have hx : c.loops[n]? = some c.loops[n] := by simp [hn]
  have c1 := rsizes_c (G := G) c n hn hs h
  obtain ⟨hsl, hsd⟩ := sizes_ok h hn
  have hln := (h.gap c.loops[n] (List.getElem_mem hn)).1
  have c2 := ends_c (G := G) c.loops[n].links (sizesI c c.loops[n]) false (by omega) hsl hsd
  have c3 := ends_c (G := G) c.loops[n].links (sizesI c c.loops[n]) true (by omega) hsl hsd
  have hs : True := trivial
  repeat' first | (with_reducible first | refine q01 ?_ | refine q02 ?_ | refine q03 ?_ | refine q04 ?_ | refine q05 ?_ | refine q06 ?_ | refine q07 (by decide) ?_ | refine q08 ?_ | refine q09 ?_ | refine q10 ?_ | refine q11 ?_ | refine q12 ?_ | refine q13 ?_ | refine q14 ?_ | refine q15 ?_ | refine q16 ?_ | refine q17 ?_ | refine And.intro (by omega) ?_) | (with_reducible refine At.fn_ret (by simp -dsimp [hx, hn, hs]; exact rfl) ?_) | (with_reducible refine At.fn_end (by simp -dsimp [hx, hn, hs]; exact rfl) ?_) | (refine CallE.pure (c1) ?_; try simp -dsimp [hx, hn, hs]) | (refine CallE.pure (c2) ?_; try simp -dsimp [hx, hn, hs]) | (refine CallE.pure (c3) ?_; try simp -dsimp [hx, hn, hs]) | (with_reducible refine DT_regionE [0, 1, 2, 3, 4, 8, 9, 11, 13] ?_; simp -dsimp [hx, hn, hs]) | (refine DT_cond rfl (fun h => ?_) (fun h => ?_) <;> (try simp only [nrm] at h) <;> (try exact Bool.noConfusion h)) | (with_reducible refine GStop_split ?_ ?_ <;> intro h <;> have h0 := h <;> (try simp only [nrm] at h) <;> (try exact Bool.noConfusion h) <;> have h2 := h <;> (try simp at h2) <;> (replace hs := And.intro h0 (And.intro h (And.intro h2 hs))) <;> simp -dsimp [h0, h, h2, hx, hn, hs]) | (with_reducible refine imp_At (fun h => ?_); (try simp only [List.map_eq_nil_iff] at h); (try subst h); try simp -dsimp [hx, hn, hs]) | with_reducible refine And.intro ?_ ?_
  all_goals try simp -dsimp [hx, hn, hs]
  all_goals try clear hs
end Go.Proofs
