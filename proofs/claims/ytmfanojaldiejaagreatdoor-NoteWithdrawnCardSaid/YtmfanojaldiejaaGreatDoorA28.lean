/- Part 28 of the proofs: laws and walks that hold without conditions beyond those that each theorem names. -/
import Derived.Test.YtmfanojaldiejaaGreatDoorRows
import Derived.Test.YtmfanojaldiejaaGreatDoorA13
import Derived.Test.YtmfanojaldiejaaGreatDoorA18
import Derived.Test.YtmfanojaldiejaaGreatDoorA23
set_option linter.all false
set_option linter.deprecated false
namespace Go.Ab
open Go
theorem list_enc {α : Type} {enc : α → List IC} {ok : α → Prop} : ∀ (es : List (List IC)), (∀ x ∈ es, ∃ a, ok a ∧ x = enc a) → ∃ xs : List α, (∀ x ∈ xs, ok x) ∧ es = xs.map enc
  | [], _ => ⟨[], by simp, rfl⟩
  | e :: es, h => by
    obtain ⟨a, ha, rfl⟩ := h e (by simp)
    obtain ⟨xs, hx, rfl⟩ := list_enc es fun x hx => h x (by simp [hx])
    exact ⟨a :: xs, by simpa using ⟨ha, hx⟩, rfl⟩
theorem Opens.sliceOf {P : Program} {t e : TypeId} {α : Type} {enc : α → List IC} {ok : α → Prop} {sz : Nat} (ht : P.underlying t = some (.slice e)) (hc : P.cellsOf e = sz) (h0 : 0 < sz) (hl : ∀ x, (enc x).length = sz) (he : Opens P e (fun l => ∃ x, ok x ∧ l = enc x)) :
    Opens P t (fun l => ∃ xs : List α, (∀ x ∈ xs, ok x) ∧ l = [.sl (xs.map enc)]) :=
  (Opens.slice ht hc h0 he (by rintro l ⟨x, _, rfl⟩; exact hl x)).mono (by
    rintro l ⟨es, h, rfl⟩
    obtain ⟨xs, h1, rfl⟩ := list_enc es h
    exact ⟨xs, h1, rfl⟩)
def kindIn (x : Issue) : Prop := 0 ≤ x.kind ∧ x.kind ≤ 255
end Go.Ab
namespace Go.Proofs
open Go Go.Ab
def Rd (t : TypeId) {α : Type} (enc : α → List IC) (ok : α → Prop) : Prop := Opens Tryz.prog t (fun l => ∃ x, ok x ∧ l = enc x)
theorem oInt : Opens Tryz.prog 3 (fun l => ∃ n : Int, l = [rI n]) := (Opens.int Tryz.underlying3).mono (by rintro l ⟨n, _, rfl⟩; exact ⟨n, rfl⟩)
theorem oU8 : Opens Tryz.prog 5 (fun l => ∃ n : Int, (0 ≤ n ∧ n ≤ 255) ∧ l = [.raw (.int .u8 n)]) := (Opens.int Tryz.underlying5).mono (by
  rintro l ⟨n, hn, rfl⟩
  exact ⟨n, by simpa [IntKind.min, IntKind.max, IntKind.signed, IntKind.bits] using hn, rfl⟩)
theorem oBool : Opens Tryz.prog 4 (fun l => ∃ b : Bool, l = [rB b]) := Opens.bool Tryz.underlying4
theorem rdInt : Rd 3 encI (fun _ => True) := oInt.mono (by rintro l ⟨n, rfl⟩; exact ⟨n, trivial, rfl⟩)
theorem len2 {α : Type} {l : List α} (h : l.length = 2) : ∃ a b, l = [a, b] := by
  match l, h with
  | [a, b], _ => exact ⟨a, b, rfl⟩
theorem len3 {α : Type} {l : List α} (h : l.length = 3) : ∃ a b c, l = [a, b, c] := by
  match l, h with
  | [a, b, c], _ => exact ⟨a, b, c, rfl⟩
theorem len4 {α : Type} {l : List α} (h : l.length = 4) : ∃ a b c d, l = [a, b, c, d] := by
  match l, h with
  | [a, b, c, d], _ => exact ⟨a, b, c, d, rfl⟩
theorem len5 {α : Type} {l : List α} (h : l.length = 5) : ∃ a b c d e, l = [a, b, c, d, e] := by
  match l, h with
  | [a, b, c, d, e], _ => exact ⟨a, b, c, d, e, rfl⟩
def pick3 {α : Type} (d : α) (a b c : α) : Nat → α | 0 => a | 1 => b | 2 => c | _ => d
def pick5 {α : Type} (z : α) (a b c d e : α) : Nat → α | 0 => a | 1 => b | 2 => c | 3 => d | 4 => e | _ => z
theorem rdItem : Rd 121 encItem (fun _ => True) := (Opens.struct Tryz.underlying121 (by kernel_rfl) (fun _ l => ∃ n : Int, l = [rI n]) (fun i f hf => by
    rcases i with _ | _ | i <;> simp at hf <;> subst hf <;> exact oInt)).mono (by
  rintro l ⟨ls, h1, h2, rfl⟩
  obtain ⟨a, b, rfl⟩ := len2 h1
  obtain ⟨x, rfl⟩ := h2 0 a rfl
  obtain ⟨y, rfl⟩ := h2 1 b rfl
  exact ⟨⟨x, y⟩, trivial, rfl⟩)
theorem rdDim : Rd 124 encDim (fun _ => True) := (Opens.struct Tryz.underlying124 (by kernel_rfl) (fun _ l => ∃ n : Int, l = [rI n]) (fun i f hf => by
    rcases i with _ | _ | _ | i <;> simp at hf <;> subst hf <;> exact oInt)).mono (by
  rintro l ⟨ls, h1, h2, rfl⟩
  obtain ⟨a, b, c, rfl⟩ := len3 h1
  obtain ⟨x, rfl⟩ := h2 0 a rfl
  obtain ⟨y, rfl⟩ := h2 1 b rfl
  obtain ⟨z, rfl⟩ := h2 2 c rfl
  exact ⟨⟨x, y, z⟩, trivial, rfl⟩)
theorem oItems : Opens Tryz.prog 80 (fun l => ∃ xs : List Itm, l = [.sl (xs.map encItem)]) :=
  (Opens.sliceOf Tryz.underlying80 (sz := 2) (by kernel_rfl) (by decide) (fun _ => rfl) rdItem).mono (by rintro l ⟨xs, _, h⟩; exact ⟨xs, h⟩)
theorem oDims : Opens Tryz.prog 112 (fun l => ∃ xs : List Dim, l = [.sl (xs.map encDim)]) :=
  (Opens.sliceOf Tryz.underlying112 (sz := 3) (by kernel_rfl) (by decide) (fun _ => rfl) rdDim).mono (by rintro l ⟨xs, _, h⟩; exact ⟨xs, h⟩)
theorem oInts : Opens Tryz.prog 34 (fun l => ∃ xs : List Int, l = [.sl (xs.map encI)]) :=
  (Opens.sliceOf Tryz.underlying34 (sz := 1) (by kernel_rfl) (by decide) (fun _ => rfl) rdInt).mono (by rintro l ⟨xs, _, h⟩; exact ⟨xs, h⟩)
theorem rdIssue : Rd 114 encIssue kindIn := (Opens.struct Tryz.underlying114 (by kernel_rfl) (pick5 (fun _ => True) (fun l => ∃ n : Int, l = [rI n]) (fun l => ∃ n : Int, l = [rI n]) (fun l => ∃ n : Int, (0 ≤ n ∧ n ≤ 255) ∧ l = [.raw (.int .u8 n)]) (fun l => ∃ xs : List Itm, l = [.sl (xs.map encItem)]) (fun l => ∃ xs : List Dim, l = [.sl (xs.map encDim)])) (fun i f hf => by
    rcases i with _ | _ | _ | _ | _ | i <;> simp at hf <;> subst hf
    · exact oInt
    · exact oInt
    · exact oU8
    · exact oItems
    · exact oDims)).mono (by
  rintro l ⟨ls, h1, h2, rfl⟩
  obtain ⟨a, b, c, d, e, rfl⟩ := len5 h1
  obtain ⟨x, rfl⟩ := h2 0 a rfl
  obtain ⟨y, rfl⟩ := h2 1 b rfl
  obtain ⟨z, hz, rfl⟩ := h2 2 c rfl
  obtain ⟨u, rfl⟩ := h2 3 d rfl
  obtain ⟨v, rfl⟩ := h2 4 e rfl
  exact ⟨⟨x, y, z, u, v⟩, hz, rfl⟩)
theorem oReg22 : Opens Tryz.prog 22 (fun l => ∃ xs : List Issue, (∀ x ∈ xs, kindIn x) ∧ l = [.sl (xs.map encIssue)]) :=
  Opens.sliceOf Tryz.underlying22 (sz := 5) (by kernel_rfl) (by decide) (fun _ => rfl) rdIssue
theorem oReg : Opens Tryz.prog 24 (fun l => ∃ xs : List Issue, (∀ x ∈ xs, kindIn x) ∧ l = [.sl (xs.map encIssue)]) := (Opens.struct Tryz.underlying24 (by kernel_rfl) (fun _ l => ∃ xs : List Issue, (∀ x ∈ xs, kindIn x) ∧ l = [.sl (xs.map encIssue)]) (fun i f hf => by
    rcases i with _ | i <;> simp at hf <;> subst hf <;> exact oReg22)).mono (by
  rintro l ⟨ls, h1, h2, rfl⟩
  obtain ⟨a, rfl⟩ := List.length_eq_one_iff.1 h1
  obtain ⟨x, hx, rfl⟩ := h2 0 a rfl
  exact ⟨x, hx, rfl⟩)
theorem cells_of_table {P : Program} {W : World} {t e te n : Nat} {f : Field} {ps rs : Array TypeId} {cs : Array Value} {fuel : Nat} {p : List MemPlace} {names : List (List UInt8)} {fs : List FuncId} (ht : P.underlying t = some (.array n e)) (hte : P.underlying e = some (.struct #[f])) (hf0 : f.offset = 0) (hft : f.type = te) (hu : P.underlying te = some (.func ps rs false)) (hce : P.cellsOf e = 1) (hcf : P.cellsOf te = 1) (hn : names.length = n)
    (hfs : (names.zip fs).all (fun x => x.1 ≠ [] ∧ ((List.range P.funcs.size).filter fun f => (P.funcs[f]?).any (·.name.toUTF8.data.toList == x.1)) = [x.2]) = true) (hl : fs.length = n)
    (h : DataW.trod (funcToken P) P W 0 (fun _ => true) true fuel t cs.toList = some (.agg (names.map fun x => .agg [.held x]), p)) : ∀ (j : Nat) (g : FuncId), fs[j]? = some g → cs[j]? = some (.func (.func g) #[] #[]) := by
  obtain ⟨xs, m, _, ex, hlen, hxl, hel⟩ := DataW.trod_array ht h
  intro j g hg
  have hj : j < n := by rw [← hl]; exact lt_of_getElem? hg
  have hE := hel j hj
  rw [hce, Nat.mul_one] at hE
  have hx : xs[j]? = some xs[j] := by simp [hxl, hj]
  rw [hx] at hE
  obtain ⟨ys, m2, _, ey, hlen2, hyl, hel2⟩ := DataW.trod_struct hte hE
  have hE2 := hel2 0 f rfl
  have hyl1 : ys.length = 1 := by simpa using hyl
  obtain ⟨y, rfl⟩ := List.length_eq_one_iff.1 hyl1
  rw [hf0, hft, hcf] at hE2
  have hcl : j < cs.size := by
    rcases Nat.lt_or_ge j cs.size with h1 | h1
    · exact h1
    · simp [hce] at hlen2; omega
  have hc1 : ((cs.toList.drop j).take 1) = [cs[j]] := by
    rw [List.drop_eq_getElem_cons (by simpa using hcl)]; simp
  rw [hc1] at hE2
  simp only [List.drop_zero, List.take_succ_cons, List.getElem?_cons_zero, List.take_nil] at hE2
  have hnm : names[j]? = some names[j] := by simp [hn, hj]
  have e1 : (xs.map (·.1))[j]? = (names.map fun x => DataW.agg [DataW.held x])[j]? := by rw [(DataW.agg.inj (Prod.mk.inj ex).1)]
  rw [List.getElem?_map, List.getElem?_map, hx, hnm, ey] at e1
  simp only [Option.map_some, Option.some.injEq, DataW.agg.injEq, List.map_cons, List.map_nil, List.cons.injEq, and_true] at e1
  have hall := List.all_eq_true.1 hfs (names[j], g) (List.mem_iff_getElem?.2 ⟨j, by rw [List.getElem?_zip_eq_some]; exact ⟨hnm, hg⟩⟩)
  simp only [decide_eq_true_eq] at hall
  cases hnj : names[j] with
  | nil => exact absurd hnj hall.1
  | cons b r =>
    rw [hnj] at hall e1
    have := func_of_trod (f0 := g) (q := y.2) hu hall.2 (by rw [hE2, ← e1])
    rw [Array.getElem?_eq_getElem hcl, this]
end Go.Proofs
namespace Go.Proofs
open Go Go.Ab
theorem len10 {α : Type} {l : List α} (h : l.length = 10) : ∃ a b c d e f g i j k, l = [a, b, c, d, e, f, g, i, j, k] := by
  match l, h with
  | [a, b, c, d, e, f, g, i, j, k], _ => exact ⟨a, b, c, d, e, f, g, i, j, k, rfl⟩
def noteIn (x : Note) : Prop := 0 ≤ x.ways ∧ x.ways ≤ 255 ∧ 0 ≤ x.signed ∧ x.signed ≤ 255
def noteP : Nat → List IC → Prop
  | 2 => fun l => ∃ n : Int, (0 ≤ n ∧ n ≤ 255) ∧ l = [.raw (.int .u8 n)]
  | 8 => fun l => ∃ b : Bool, l = [rB b]
  | 9 => fun l => ∃ n : Int, (0 ≤ n ∧ n ≤ 255) ∧ l = [.raw (.int .u8 n)]
  | _ => fun l => ∃ n : Int, l = [rI n]
theorem rdNote : Rd 51 encNote noteIn := (Opens.struct Tryz.underlying51 (by kernel_rfl) noteP (fun i f hf => by
    rcases i with _ | _ | _ | _ | _ | _ | _ | _ | _ | _ | i <;> simp at hf <;> subst hf
    · exact oInt
    · exact oInt
    · exact oU8
    · exact oInt
    · exact oInt
    · exact oInt
    · exact oInt
    · exact oInt
    · exact oBool
    · exact oU8)).mono (by
  rintro l ⟨ls, h1, h2, rfl⟩
  obtain ⟨a, b, c, d, e, f, g, i, j, k, rfl⟩ := len10 h1
  obtain ⟨x0, rfl⟩ := h2 0 a rfl
  obtain ⟨x1, rfl⟩ := h2 1 b rfl
  obtain ⟨x2, k2, rfl⟩ := h2 2 c rfl
  obtain ⟨x3, rfl⟩ := h2 3 d rfl
  obtain ⟨x4, rfl⟩ := h2 4 e rfl
  obtain ⟨x5, rfl⟩ := h2 5 f rfl
  obtain ⟨x6, rfl⟩ := h2 6 g rfl
  obtain ⟨x7, rfl⟩ := h2 7 i rfl
  obtain ⟨x8, rfl⟩ := h2 8 j rfl
  obtain ⟨x9, k9, rfl⟩ := h2 9 k rfl
  exact ⟨⟨x0, x1, x2, x3, x4, x5, x6, x7, x8, x9⟩, ⟨k9.1, k9.2, k2.1, k2.2⟩, rfl⟩)
theorem oNoteL : Opens Tryz.prog 25 (fun l => ∃ xs : List Note, (∀ x ∈ xs, noteIn x) ∧ l = [.sl (xs.map encNote)]) :=
  Opens.sliceOf Tryz.underlying25 (sz := 10) (by kernel_rfl) (by decide) (fun _ => rfl) rdNote
def notesP : Nat → List IC → Prop
  | 0 => fun l => ∃ xs : List Issue, (∀ x ∈ xs, kindIn x) ∧ l = [.sl (xs.map encIssue)]
  | _ => fun l => ∃ xs : List Note, (∀ x ∈ xs, noteIn x) ∧ l = [.sl (xs.map encNote)]
theorem rdNotes : Rd 27 encNotes NKind := (Opens.struct Tryz.underlying27 (by kernel_rfl) notesP (fun i f hf => by
    rcases i with _ | _ | i <;> simp at hf <;> subst hf
    · exact oReg
    · exact oNoteL)).mono (by
  rintro l ⟨ls, h1, h2, rfl⟩
  obtain ⟨a, b, rfl⟩ := len2 h1
  obtain ⟨x, hx, rfl⟩ := h2 0 a rfl
  obtain ⟨y, hy, rfl⟩ := h2 1 b rfl
  exact ⟨⟨x, y⟩, ⟨hx, hy⟩, rfl⟩)
end Go.Proofs
