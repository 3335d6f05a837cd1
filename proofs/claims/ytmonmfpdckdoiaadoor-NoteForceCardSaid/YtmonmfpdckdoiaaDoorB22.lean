/- Part 22 of the proof whose last text closes the card: laws and walks that hold without conditions beyond those that each theorem names. -/
import Derived.Test.YtmonmfpdckdoiaaDoorRows
import Derived.Test.YtmonmfpdckdoiaaDoorB13
import Derived.Test.YtmonmfpdckdoiaaDoorB17
import Derived.Test.YtmonmfpdckdoiaaDoorB20
import Derived.Test.YtmonmfpdckdoiaaDoorB21
set_option linter.all false
set_option linter.deprecated false
namespace Go.Proofs
open Go Go.Ab
set_option linter.unusedSimpArgs false
variable {G : Nat → Option (List IC)}
/-- The table of the checks. -/
def sheetG (G : Nat → Option (List IC)) : Prop := G 2 = some [.fn (.func 202) [], .fn (.func 203) [], .fn (.func 204) [], .fn (.func 205) []]
def SmallR (l : List Issue) : Prop := l.length ≤ 80 ∧ ∀ x ∈ l, 0 ≤ x.kind ∧ x.kind ≤ 255 ∧ x.items.length ≤ 16 ∧ x.dims.length ≤ 8
def bookR (l : List Issue) : DV := if checkR l = 0 then .one (.im (bookI l (nums l))) else .one (.im (.raw (.pointer none)))
theorem bookR_im (l : List Issue) : ImV (bookR l) := by unfold bookR; split <;> simp [bookI]
attribute [simp] bookR_im
theorem openR_book (l : List Issue) : openR l = bookR l := by
  obtain ⟨h1, h2⟩ := open_check l
  unfold openR bookR
  rw [h1] at h2 ⊢
  split
  · rw [(h2 ‹_›).1]
  · rfl
theorem open2_c (l : List Issue) (hG : sheetG G) (hs : SmallR l) (objs : List DObj) : DCall Tryd.prog G 116 [regv l] objs (fun rr objs' => rr = .tup [bookR l, iv (checkR l)] ∧ objs' = objs) := by
  have h := open_c (G := G) l hG (by have := hs.1; omega) (fun x hx => by have := hs.2 x hx; omega) objs
  rw [openR_book, (open_check l).1] at h
  exact h
theorem check_listed {l : List Issue} (h : checkR l = 0) : listedI l = true := ((open_check l).2 (by rw [(open_check l).1]; exact h)).2
theorem listed_scan {l : List Issue} (h : listedI l = true) : scanI none l = some (nums l) := by
  simp only [listedI, Bool.and_eq_true] at h
  obtain ⟨ds, hds⟩ := Option.isSome_iff_exists.1 h.1.1.2
  rw [hds, scan_nums hds]
theorem check_sorted {l : List Issue} (h : checkR l = 0) : (l.map (·.drawing)).Pairwise (· ≤ ·) := (scan_all (listed_scan (check_listed h))).2.2.2.2
theorem check_nums {l : List Issue} (h : checkR l = 0) : (nums l).Pairwise (· < ·) ∧ ∀ x ∈ l, x.drawing ∈ nums l := ⟨(scan_all (listed_scan (check_listed h))).2.1, (scan_all (listed_scan (check_listed h))).2.2.1⟩
theorem sheetCheck_c (l : List Issue) (hG : sheetG G) (hs : SmallR l) (objs : List DObj) : DCall Tryd.prog G 83 [regv l] objs (fun rr objs' => rr = iv (checkR l) ∧ objs' = objs) := by
  refine DCall.frame ?_ (by simp) (by simp) objs
  refine DCall_intro Tryd.func83 rfl Tryd.ntmps83 (by simp) rfl ?_
  try simp only [regv]
  have c1 := open2_c l hG hs
  have hs : True := trivial
  repeat' first | (with_reducible first | refine q01 ?_ | refine q02 ?_ | refine q03 ?_ | refine q04 ?_ | refine q05 ?_ | refine q06 ?_ | refine q07 (by decide) ?_ | refine q08 ?_ | refine q09 ?_ | refine q10 ?_ | refine q11 ?_ | refine q12 ?_ | refine q13 ?_ | refine q14 ?_ | refine q15 ?_ | refine q16 ?_ | refine q17 ?_ | refine And.intro (by omega) ?_) | (with_reducible refine At.fn_ret (by simp -dsimp [hs]; exact rfl) ?_) | (with_reducible refine At.fn_end (by simp -dsimp [hs]; exact rfl) ?_) | (refine CallE.pure (c1) ?_; try simp -dsimp [hs]) | (with_reducible refine DT_regionE [0, 1, 2, 4] ?_; simp -dsimp [hs]) | (refine DT_cond rfl (fun h => ?_) (fun h => ?_) <;> (try simp only [nrm] at h) <;> (try exact Bool.noConfusion h)) | (with_reducible refine GStop_split ?_ ?_ <;> intro h <;> have h0 := h <;> (try simp only [nrm] at h) <;> (try exact Bool.noConfusion h) <;> have h2 := h <;> (try simp at h2) <;> (replace hs := And.intro h0 (And.intro h (And.intro h2 hs))) <;> simp -dsimp [h0, h, h2, hs]) | (with_reducible refine imp_At (fun h => ?_); (try simp only [List.map_eq_nil_iff] at h); (try subst h); try simp -dsimp [hs]) | with_reducible refine And.intro ?_ ?_
  all_goals try simp -dsimp [hs]
  all_goals try clear hs
def drawR (l : List Issue) : List Int := if checkR l = 0 then nums l else []
theorem drawings_c (l : List Issue) (hG : sheetG G) (hs : SmallR l) (objs : List DObj) : DCall Tryd.prog G 85 [regv l] objs (fun rr objs' => rr = .tup [isv (drawR l), iv (checkR l)] ∧ objs' = objs) := by
  refine DCall.frame ?_ (by simp) (by simp) objs
  refine DCall_intro Tryd.func85 rfl Tryd.ntmps85 (by simp) rfl ?_
  try simp only [regv]
  have c1 := open2_c l hG hs
  by_cases h0 : checkR l = 0
  · simp only [bookR, h0, if_true, bookI] at c1
    have hs : True := trivial
    repeat' first | (with_reducible first | refine q01 ?_ | refine q02 ?_ | refine q03 ?_ | refine q04 ?_ | refine q05 ?_ | refine q06 ?_ | refine q07 (by decide) ?_ | refine q08 ?_ | refine q09 ?_ | refine q10 ?_ | refine q11 ?_ | refine q12 ?_ | refine q13 ?_ | refine q14 ?_ | refine q15 ?_ | refine q16 ?_ | refine q17 ?_ | refine And.intro (by omega) ?_) | (with_reducible refine At.fn_ret (by simp -dsimp [hs]; exact rfl) ?_) | (with_reducible refine At.fn_end (by simp -dsimp [hs]; exact rfl) ?_) | (refine CallE.pure (c1) ?_; try simp -dsimp [hs]) | (with_reducible refine DT_regionE [0, 1, 2, 3, 4, 5, 12] ?_; simp -dsimp [hs]) | (refine DT_cond rfl (fun h => ?_) (fun h => ?_) <;> (try simp only [nrm] at h) <;> (try exact Bool.noConfusion h)) | (with_reducible refine GStop_split ?_ ?_ <;> intro h <;> have h0 := h <;> (try simp only [nrm] at h) <;> (try exact Bool.noConfusion h) <;> have h2 := h <;> (try simp at h2) <;> (replace hs := And.intro h0 (And.intro h (And.intro h2 hs))) <;> simp -dsimp [h0, h, h2, hs]) | (with_reducible refine imp_At (fun h => ?_); (try simp only [List.map_eq_nil_iff] at h); (try subst h); try simp -dsimp [hs]) | with_reducible refine And.intro ?_ ?_
    all_goals try simp -dsimp [hs]
    all_goals try clear hs
    simp [drawR, h0]
  · simp only [bookR, h0, if_false] at c1
    have hs : True := trivial
    repeat' first | (with_reducible first | refine q01 ?_ | refine q02 ?_ | refine q03 ?_ | refine q04 ?_ | refine q05 ?_ | refine q06 ?_ | refine q07 (by decide) ?_ | refine q08 ?_ | refine q09 ?_ | refine q10 ?_ | refine q11 ?_ | refine q12 ?_ | refine q13 ?_ | refine q14 ?_ | refine q15 ?_ | refine q16 ?_ | refine q17 ?_ | refine And.intro (by omega) ?_) | (with_reducible refine At.fn_ret (by simp -dsimp [h0, hs]; exact rfl) ?_) | (with_reducible refine At.fn_end (by simp -dsimp [h0, hs]; exact rfl) ?_) | (refine CallE.pure (c1) ?_; try simp -dsimp [h0, hs]) | (with_reducible refine DT_regionE [0, 1, 2, 3, 4, 5, 12] ?_; simp -dsimp [h0, hs]) | (refine DT_cond rfl (fun h => ?_) (fun h => ?_) <;> (try simp only [nrm] at h) <;> (try exact Bool.noConfusion h)) | (with_reducible refine GStop_split ?_ ?_ <;> intro h <;> have h0 := h <;> (try simp only [nrm] at h) <;> (try exact Bool.noConfusion h) <;> have h2 := h <;> (try simp at h2) <;> (replace hs := And.intro h0 (And.intro h (And.intro h2 hs))) <;> simp -dsimp [h0, h, h2, h0, hs]) | (with_reducible refine imp_At (fun h => ?_); (try simp only [List.map_eq_nil_iff] at h); (try subst h); try simp -dsimp [h0, hs]) | with_reducible refine And.intro ?_ ?_
    all_goals try simp -dsimp [h0, hs]
    all_goals try clear hs
    all_goals simp [drawR, h0]
def atR (l : List Issue) (d lt : Int) : Issue := if checkR l = 0 then (findI l d lt).getD zIssue else zIssue
def atE (l : List Issue) (d lt : Int) : Int := if checkR l ≠ 0 then checkR l else if (findI l d lt).isSome then 0 else 6
theorem at_c (l : List Issue) (d lt : Int) (hG : sheetG G) (hs : SmallR l) (objs : List DObj) : DCall Tryd.prog G 86 [regv l, refv d lt] objs (fun rr objs' => rr = .tup [issv (atR l d lt), iv (atE l d lt)] ∧ objs' = objs) := by
  refine DCall.frame ?_ (by simp) (by simp) objs
  refine DCall_intro Tryd.func86 rfl Tryd.ntmps86 (by simp) rfl ?_
  try simp only [regv, refv]
  have c1 := open2_c l hG hs
  by_cases h0 : checkR l = 0
  · simp only [bookR, h0, if_true] at c1
    have c2 := bfind_c (G := G) l (nums l) d lt (check_sorted h0) (by have := hs.1; omega)
    simp only [refv] at c2
    cases hf : findI l d lt with
    | none =>
      simp only [hf, Option.isSome_none, Option.getD_none] at c2
      have hs : True := trivial
      repeat' first | (with_reducible first | refine q01 ?_ | refine q02 ?_ | refine q03 ?_ | refine q04 ?_ | refine q05 ?_ | refine q06 ?_ | refine q07 (by decide) ?_ | refine q08 ?_ | refine q09 ?_ | refine q10 ?_ | refine q11 ?_ | refine q12 ?_ | refine q13 ?_ | refine q14 ?_ | refine q15 ?_ | refine q16 ?_ | refine q17 ?_ | refine And.intro (by omega) ?_) | (with_reducible refine At.fn_ret (by simp -dsimp [hs]; exact rfl) ?_) | (with_reducible refine At.fn_end (by simp -dsimp [hs]; exact rfl) ?_) | (refine CallE.pure (c1) ?_; try simp -dsimp [hs]) | (refine CallE.pure (c2) ?_; try simp -dsimp [hs]) | (with_reducible refine DT_regionE [0, 1, 2, 3, 4, 5, 6, 7, 8, 9, 16, 26] ?_; simp -dsimp [hs]) | (refine DT_cond rfl (fun h => ?_) (fun h => ?_) <;> (try simp only [nrm] at h) <;> (try exact Bool.noConfusion h)) | (with_reducible refine GStop_split ?_ ?_ <;> intro h <;> have h0 := h <;> (try simp only [nrm] at h) <;> (try exact Bool.noConfusion h) <;> have h2 := h <;> (try simp at h2) <;> (replace hs := And.intro h0 (And.intro h (And.intro h2 hs))) <;> simp -dsimp [h0, h, h2, hs]) | (with_reducible refine imp_At (fun h => ?_); (try simp only [List.map_eq_nil_iff] at h); (try subst h); try simp -dsimp [hs]) | with_reducible refine And.intro ?_ ?_
      all_goals try simp -dsimp [hs]
      all_goals try clear hs
      all_goals simp [atR, atE, h0, hf, zIssue]
    | some y =>
      simp only [hf, Option.isSome_some, Option.getD_some] at c2
      have hy : y ∈ l := List.mem_of_find?_eq_some hf
      have c3 := copied_c (G := G) y (hs.2 y hy).2.2.1 (hs.2 y hy).2.2.2
      have hs : True := trivial
      repeat' first | (with_reducible first | refine q01 ?_ | refine q02 ?_ | refine q03 ?_ | refine q04 ?_ | refine q05 ?_ | refine q06 ?_ | refine q07 (by decide) ?_ | refine q08 ?_ | refine q09 ?_ | refine q10 ?_ | refine q11 ?_ | refine q12 ?_ | refine q13 ?_ | refine q14 ?_ | refine q15 ?_ | refine q16 ?_ | refine q17 ?_ | refine And.intro (by omega) ?_) | (with_reducible refine At.fn_ret (by simp -dsimp [hs]; exact rfl) ?_) | (with_reducible refine At.fn_end (by simp -dsimp [hs]; exact rfl) ?_) | (refine CallE.pure (c1) ?_; try simp -dsimp [hs]) | (refine CallE.pure (c2) ?_; try simp -dsimp [hs]) | (refine CallE.pure (c3) ?_; try simp -dsimp [hs]) | (with_reducible refine DT_regionE [0, 1, 2, 3, 4, 5, 6, 7, 8, 9, 16, 26] ?_; simp -dsimp [hs]) | (refine DT_cond rfl (fun h => ?_) (fun h => ?_) <;> (try simp only [nrm] at h) <;> (try exact Bool.noConfusion h)) | (with_reducible refine GStop_split ?_ ?_ <;> intro h <;> have h0 := h <;> (try simp only [nrm] at h) <;> (try exact Bool.noConfusion h) <;> have h2 := h <;> (try simp at h2) <;> (replace hs := And.intro h0 (And.intro h (And.intro h2 hs))) <;> simp -dsimp [h0, h, h2, hs]) | (with_reducible refine imp_At (fun h => ?_); (try simp only [List.map_eq_nil_iff] at h); (try subst h); try simp -dsimp [hs]) | with_reducible refine And.intro ?_ ?_
      all_goals try simp -dsimp [hs]
      all_goals try clear hs
      all_goals simp [atR, atE, h0, hf]
  · simp only [bookR, h0, if_false] at c1
    have hs : True := trivial
    repeat' first | (with_reducible first | refine q01 ?_ | refine q02 ?_ | refine q03 ?_ | refine q04 ?_ | refine q05 ?_ | refine q06 ?_ | refine q07 (by decide) ?_ | refine q08 ?_ | refine q09 ?_ | refine q10 ?_ | refine q11 ?_ | refine q12 ?_ | refine q13 ?_ | refine q14 ?_ | refine q15 ?_ | refine q16 ?_ | refine q17 ?_ | refine And.intro (by omega) ?_) | (with_reducible refine At.fn_ret (by simp -dsimp [h0, hs]; exact rfl) ?_) | (with_reducible refine At.fn_end (by simp -dsimp [h0, hs]; exact rfl) ?_) | (refine CallE.pure (c1) ?_; try simp -dsimp [h0, hs]) | (with_reducible refine DT_regionE [0, 1, 2, 3, 4, 5, 6, 7, 8, 9, 16, 26] ?_; simp -dsimp [h0, hs]) | (refine DT_cond rfl (fun h => ?_) (fun h => ?_) <;> (try simp only [nrm] at h) <;> (try exact Bool.noConfusion h)) | (with_reducible refine GStop_split ?_ ?_ <;> intro h <;> have h0 := h <;> (try simp only [nrm] at h) <;> (try exact Bool.noConfusion h) <;> have h2 := h <;> (try simp at h2) <;> (replace hs := And.intro h0 (And.intro h (And.intro h2 hs))) <;> simp -dsimp [h0, h, h2, h0, hs]) | (with_reducible refine imp_At (fun h => ?_); (try simp only [List.map_eq_nil_iff] at h); (try subst h); try simp -dsimp [h0, hs]) | with_reducible refine And.intro ?_ ?_
    all_goals try simp -dsimp [h0, hs]
    all_goals try clear hs
    all_goals simp [atR, atE, h0, zIssue]
end Go.Proofs
namespace Go.Ab
open Go
theorem list_enc {α : Type} {enc : α → List IC} {ok : α → Prop} : ∀ (es : List (List IC)), (∀ x ∈ es, ∃ a, ok a ∧ x = enc a) → ∃ xs : List α, (∀ x ∈ xs, ok x) ∧ es = xs.map enc
  | [], _ => ⟨[], by simp, rfl⟩
  | e :: es, h => by
    obtain ⟨a, ha, rfl⟩ := h e (by simp)
    obtain ⟨xs, hx, rfl⟩ := list_enc es fun x hx => h x (by simp [hx])
    exact ⟨a :: xs, by simpa using ⟨ha, hx⟩, rfl⟩
/-- A slice of what is written so. -/
theorem Opens.sliceOf {P : Program} {t e : TypeId} {α : Type} {enc : α → List IC} {ok : α → Prop} {sz : Nat} (ht : P.underlying t = some (.slice e)) (hc : P.cellsOf e = sz) (h0 : 0 < sz) (hl : ∀ x, (enc x).length = sz) (he : Opens P e (fun l => ∃ x, ok x ∧ l = enc x)) :
    Opens P t (fun l => ∃ xs : List α, (∀ x ∈ xs, ok x) ∧ l = [.sl (xs.map enc)]) :=
  (Opens.slice ht hc h0 he (by rintro l ⟨x, _, rfl⟩; exact hl x)).mono (by
    rintro l ⟨es, h, rfl⟩
    obtain ⟨xs, h1, rfl⟩ := list_enc es h
    exact ⟨xs, h1, rfl⟩)
def kindIn (x : Issue) : Prop := 0 ≤ x.kind ∧ x.kind ≤ 255
end Go.Ab
namespace Go.Proofs
open Go Go.Ab
def Rd (t : TypeId) {α : Type} (enc : α → List IC) (ok : α → Prop) : Prop := Opens Tryd.prog t (fun l => ∃ x, ok x ∧ l = enc x)
theorem oInt : Opens Tryd.prog 3 (fun l => ∃ n : Int, l = [rI n]) := (Opens.int Tryd.underlying3).mono (by rintro l ⟨n, _, rfl⟩; exact ⟨n, rfl⟩)
theorem oU8 : Opens Tryd.prog 5 (fun l => ∃ n : Int, (0 ≤ n ∧ n ≤ 255) ∧ l = [.raw (.int .u8 n)]) := (Opens.int Tryd.underlying5).mono (by
  rintro l ⟨n, hn, rfl⟩
  exact ⟨n, by simpa [IntKind.min, IntKind.max, IntKind.signed, IntKind.bits] using hn, rfl⟩)
theorem oBool : Opens Tryd.prog 4 (fun l => ∃ b : Bool, l = [rB b]) := Opens.bool Tryd.underlying4
theorem rdInt : Rd 3 encI (fun _ => True) := oInt.mono (by rintro l ⟨n, rfl⟩; exact ⟨n, trivial, rfl⟩)
theorem len2 {α : Type} {l : List α} (h : l.length = 2) : ∃ a b, l = [a, b] := by
  match l, h with
  | [a, b], _ => exact ⟨a, b, rfl⟩
theorem len3 {α : Type} {l : List α} (h : l.length = 3) : ∃ a b c, l = [a, b, c] := by
  match l, h with
  | [a, b, c], _ => exact ⟨a, b, c, rfl⟩
theorem len4 {α : Type} {l : List α} (h : l.length = 4) : ∃ a b c d, l = [a, b, c, d] := by
  match l, h with
  | [a, b, c, d], _ => exact ⟨a, b, c, d, rfl⟩
theorem len5 {α : Type} {l : List α} (h : l.length = 5) : ∃ a b c d e, l = [a, b, c, d, e] := by
  match l, h with
  | [a, b, c, d, e], _ => exact ⟨a, b, c, d, e, rfl⟩
def pick3 {α : Type} (d : α) (a b c : α) : Nat → α | 0 => a | 1 => b | 2 => c | _ => d
def pick5 {α : Type} (z : α) (a b c d e : α) : Nat → α | 0 => a | 1 => b | 2 => c | 3 => d | 4 => e | _ => z
theorem rdItem : Rd 160 encItem (fun _ => True) := (Opens.struct Tryd.underlying160 (by kernel_rfl) (fun _ l => ∃ n : Int, l = [rI n]) (fun i f hf => by
    rcases i with _ | _ | i <;> simp at hf <;> subst hf <;> exact oInt)).mono (by
  rintro l ⟨ls, h1, h2, rfl⟩
  obtain ⟨a, b, rfl⟩ := len2 h1
  obtain ⟨x, rfl⟩ := h2 0 a rfl
  obtain ⟨y, rfl⟩ := h2 1 b rfl
  exact ⟨⟨x, y⟩, trivial, rfl⟩)
theorem rdDim : Rd 143 encDim (fun _ => True) := (Opens.struct Tryd.underlying143 (by kernel_rfl) (fun _ l => ∃ n : Int, l = [rI n]) (fun i f hf => by
    rcases i with _ | _ | _ | i <;> simp at hf <;> subst hf <;> exact oInt)).mono (by
  rintro l ⟨ls, h1, h2, rfl⟩
  obtain ⟨a, b, c, rfl⟩ := len3 h1
  obtain ⟨x, rfl⟩ := h2 0 a rfl
  obtain ⟨y, rfl⟩ := h2 1 b rfl
  obtain ⟨z, rfl⟩ := h2 2 c rfl
  exact ⟨⟨x, y, z⟩, trivial, rfl⟩)
theorem oItems : Opens Tryd.prog 133 (fun l => ∃ xs : List Itm, l = [.sl (xs.map encItem)]) :=
  (Opens.sliceOf Tryd.underlying133 (sz := 2) (by kernel_rfl) (by decide) (fun _ => rfl) rdItem).mono (by rintro l ⟨xs, _, h⟩; exact ⟨xs, h⟩)
theorem oDims : Opens Tryd.prog 93 (fun l => ∃ xs : List Dim, l = [.sl (xs.map encDim)]) :=
  (Opens.sliceOf Tryd.underlying93 (sz := 3) (by kernel_rfl) (by decide) (fun _ => rfl) rdDim).mono (by rintro l ⟨xs, _, h⟩; exact ⟨xs, h⟩)
theorem oInts : Opens Tryd.prog 25 (fun l => ∃ xs : List Int, l = [.sl (xs.map encI)]) :=
  (Opens.sliceOf Tryd.underlying25 (sz := 1) (by kernel_rfl) (by decide) (fun _ => rfl) rdInt).mono (by rintro l ⟨xs, _, h⟩; exact ⟨xs, h⟩)
theorem rdIssue : Rd 135 encIssue kindIn := (Opens.struct Tryd.underlying135 (by kernel_rfl) (pick5 (fun _ => True) (fun l => ∃ n : Int, l = [rI n]) (fun l => ∃ n : Int, l = [rI n]) (fun l => ∃ n : Int, (0 ≤ n ∧ n ≤ 255) ∧ l = [.raw (.int .u8 n)]) (fun l => ∃ xs : List Itm, l = [.sl (xs.map encItem)]) (fun l => ∃ xs : List Dim, l = [.sl (xs.map encDim)])) (fun i f hf => by
    rcases i with _ | _ | _ | _ | _ | i <;> simp at hf <;> subst hf
    · exact oInt
    · exact oInt
    · exact oU8
    · exact oItems
    · exact oDims)).mono (by
  rintro l ⟨ls, h1, h2, rfl⟩
  obtain ⟨a, b, c, d, e, rfl⟩ := len5 h1
  obtain ⟨x, rfl⟩ := h2 0 a rfl
  obtain ⟨y, rfl⟩ := h2 1 b rfl
  obtain ⟨z, hz, rfl⟩ := h2 2 c rfl
  obtain ⟨u, rfl⟩ := h2 3 d rfl
  obtain ⟨v, rfl⟩ := h2 4 e rfl
  exact ⟨⟨x, y, z, u, v⟩, hz, rfl⟩)
theorem oReg22 : Opens Tryd.prog 22 (fun l => ∃ xs : List Issue, (∀ x ∈ xs, kindIn x) ∧ l = [.sl (xs.map encIssue)]) :=
  Opens.sliceOf Tryd.underlying22 (sz := 5) (by kernel_rfl) (by decide) (fun _ => rfl) rdIssue
theorem oReg : Opens Tryd.prog 24 (fun l => ∃ xs : List Issue, (∀ x ∈ xs, kindIn x) ∧ l = [.sl (xs.map encIssue)]) := (Opens.struct Tryd.underlying24 (by kernel_rfl) (fun _ l => ∃ xs : List Issue, (∀ x ∈ xs, kindIn x) ∧ l = [.sl (xs.map encIssue)]) (fun i f hf => by
    rcases i with _ | i <;> simp at hf <;> subst hf <;> exact oReg22)).mono (by
  rintro l ⟨ls, h1, h2, rfl⟩
  obtain ⟨a, rfl⟩ := List.length_eq_one_iff.1 h1
  obtain ⟨x, hx, rfl⟩ := h2 0 a rfl
  exact ⟨x, hx, rfl⟩)
/-! ### The listed tables -/
theorem gSheet : Tryd.prog.globalNamed "blueline/sheet.checks" = some 2 := by kernel_rfl
theorem tSheet : (Tryd.prog.globals[2]?).map (·.type) = some 221 := by kernel_rfl
/-- A table of records of one function each: its cells hold these functions. -/
theorem cells_of_table {P : Program} {W : World} {t e te n : Nat} {f : Field} {ps rs : Array TypeId} {cs : Array Value} {fuel : Nat} {p : List MemPlace} {names : List (List UInt8)} {fs : List FuncId} (ht : P.underlying t = some (.array n e)) (hte : P.underlying e = some (.struct #[f])) (hf0 : f.offset = 0) (hft : f.type = te) (hu : P.underlying te = some (.func ps rs false)) (hce : P.cellsOf e = 1) (hcf : P.cellsOf te = 1) (hn : names.length = n)
    (hfs : (names.zip fs).all (fun x => x.1 ≠ [] ∧ ((List.range P.funcs.size).filter fun f => (P.funcs[f]?).any (·.name.toUTF8.data.toList == x.1)) = [x.2]) = true) (hl : fs.length = n)
    (h : DataW.trod (funcToken P) P W 0 (fun _ => true) true fuel t cs.toList = some (.agg (names.map fun x => .agg [.held x]), p)) : ∀ (j : Nat) (g : FuncId), fs[j]? = some g → cs[j]? = some (.func (.func g) #[] #[]) := by
  obtain ⟨xs, m, _, ex, hlen, hxl, hel⟩ := DataW.trod_array ht h
  intro j g hg
  have hj : j < n := by rw [← hl]; exact lt_of_getElem? hg
  have hE := hel j hj
  rw [hce, Nat.mul_one] at hE
  have hx : xs[j]? = some xs[j] := by simp [hxl, hj]
  rw [hx] at hE
  obtain ⟨ys, m2, _, ey, hlen2, hyl, hel2⟩ := DataW.trod_struct hte hE
  have hE2 := hel2 0 f rfl
  have hyl1 : ys.length = 1 := by simpa using hyl
  obtain ⟨y, rfl⟩ := List.length_eq_one_iff.1 hyl1
  rw [hf0, hft, hcf] at hE2
  have hcl : j < cs.size := by
    rcases Nat.lt_or_ge j cs.size with h1 | h1
    · exact h1
    · simp [hce] at hlen2; omega
  have hc1 : ((cs.toList.drop j).take 1) = [cs[j]] := by
    rw [List.drop_eq_getElem_cons (by simpa using hcl)]; simp
  rw [hc1] at hE2
  simp only [List.drop_zero, List.take_succ_cons, List.getElem?_cons_zero, List.take_nil] at hE2
  have hnm : names[j]? = some names[j] := by simp [hn, hj]
  have e1 : (xs.map (·.1))[j]? = (names.map fun x => DataW.agg [DataW.held x])[j]? := by rw [(DataW.agg.inj (Prod.mk.inj ex).1)]
  rw [List.getElem?_map, List.getElem?_map, hx, hnm, ey] at e1
  simp only [Option.map_some, Option.some.injEq, DataW.agg.injEq, List.map_cons, List.map_nil, List.cons.injEq, and_true] at e1
  have hall := List.all_eq_true.1 hfs (names[j], g) (List.mem_iff_getElem?.2 ⟨j, by rw [List.getElem?_zip_eq_some]; exact ⟨hnm, hg⟩⟩)
  simp only [decide_eq_true_eq] at hall
  cases hnj : names[j] with
  | nil => exact absurd hnj hall.1
  | cons b r =>
    rw [hnj] at hall e1
    have := func_of_trod (f0 := g) (q := y.2) hu hall.2 (by rw [hE2, ← e1])
    rw [Array.getElem?_eq_getElem hcl, this]
end Go.Proofs
namespace Go.Proofs
open Go Go.Ab
set_option linter.unusedSimpArgs false
variable {G : Nat → Option (List IC)}
theorem within1_c (n lo hi : Int) (objs : List DObj) : DCall Tryd.prog G 165 [iv n, iv lo, iv hi] objs (fun rr objs' => rr = bv (decide (lo ≤ n) && decide (n ≤ hi)) ∧ objs' = objs) := by
  refine DCall.frame ?_ (by simp) (by simp) objs
  refine DCall_intro Tryd.func165 rfl Tryd.ntmps165 (by simp) rfl ?_
  try simp only [iv, iv, iv]
  have hs : True := trivial
  repeat' first | (with_reducible first | refine q01 ?_ | refine q02 ?_ | refine q03 ?_ | refine q04 ?_ | refine q05 ?_ | refine q06 ?_ | refine q07 (by decide) ?_ | refine q08 ?_ | refine q09 ?_ | refine q10 ?_ | refine q11 ?_ | refine q12 ?_ | refine q13 ?_ | refine q14 ?_ | refine q15 ?_ | refine q16 ?_ | refine q17 ?_ | refine And.intro (by omega) ?_) | (with_reducible refine At.fn_ret (by simp -dsimp [hs]; exact rfl) ?_) | (with_reducible refine At.fn_end (by simp -dsimp [hs]; exact rfl) ?_) | (with_reducible refine DT_regionE [0, 1, 2, 6] ?_; simp -dsimp [hs]) | (refine DT_cond rfl (fun h => ?_) (fun h => ?_) <;> (try simp only [nrm] at h) <;> (try exact Bool.noConfusion h)) | (with_reducible refine GStop_split ?_ ?_ <;> intro h <;> have h0 := h <;> (try simp only [nrm] at h) <;> (try exact Bool.noConfusion h) <;> have h2 := h <;> (try simp at h2) <;> (replace hs := And.intro h0 (And.intro h (And.intro h2 hs))) <;> simp -dsimp [h0, h, h2, hs]) | (with_reducible refine imp_At (fun h => ?_); (try simp only [List.map_eq_nil_iff] at h); (try subst h); try simp -dsimp [hs]) | with_reducible refine And.intro ?_ ?_
  all_goals try simp -dsimp [hs]
  all_goals try clear hs
  all_goals simp [*]
theorem dimOk_iff (d : Dim) : dimOk d = true ↔ 0 ≤ d.nominal ∧ d.nominal ≤ 1000000000 ∧ 0 ≤ d.upper ∧ d.upper ≤ 1000000000 ∧ 0 ≤ d.lower ∧ d.lower ≤ d.upper := by
  simp [dimOk]; omega
theorem false_of {b : Bool} {p : Prop} (h : b = true ↔ p) (hn : ¬ p) : b = false := by
  cases b
  · rfl
  · exact absurd (h.1 rfl) hn
theorem true_of {b : Bool} {p : Prop} (h : b = true ↔ p) (hn : p) : b = true := h.2 hn
theorem dim_c (d : Dim) (objs : List DObj) : DCall Tryd.prog G 151 [dimv d] objs (fun rr objs' => rr = bv (dimOk d) ∧ objs' = objs) := by
  refine DCall.frame ?_ (by simp) (by simp) objs
  refine DCall_intro Tryd.func151 rfl Tryd.ntmps151 (by simp) rfl ?_
  try simp only [dimv]
  have hs : True := trivial
  repeat' first | (with_reducible first | refine q01 ?_ | refine q02 ?_ | refine q03 ?_ | refine q04 ?_ | refine q05 ?_ | refine q06 ?_ | refine q07 (by decide) ?_ | refine q08 ?_ | refine q09 ?_ | refine q10 ?_ | refine q11 ?_ | refine q12 ?_ | refine q13 ?_ | refine q14 ?_ | refine q15 ?_ | refine q16 ?_ | refine q17 ?_ | refine And.intro (by omega) ?_) | (with_reducible refine At.fn_ret (by simp -dsimp [hs]; exact rfl) ?_) | (with_reducible refine At.fn_end (by simp -dsimp [hs]; exact rfl) ?_) | (refine CallE.pure (within1_c (G := G) _ _ _) ?_; try simp -dsimp [hs]) | (with_reducible refine DT_regionE [0, 1, 2] ?_; simp -dsimp [hs]) | (refine DT_cond rfl (fun h => ?_) (fun h => ?_) <;> (try simp only [nrm] at h) <;> (try exact Bool.noConfusion h)) | (with_reducible refine GStop_split ?_ ?_ <;> intro h <;> have h0 := h <;> (try simp only [nrm] at h) <;> (try exact Bool.noConfusion h) <;> have h2 := h <;> (try simp at h2) <;> (replace hs := And.intro h0 (And.intro h (And.intro h2 hs))) <;> simp -dsimp [h0, h, h2, hs]) | (with_reducible refine imp_At (fun h => ?_); (try simp only [List.map_eq_nil_iff] at h); (try subst h); try simp -dsimp [hs]) | with_reducible refine And.intro ?_ ?_
  all_goals try simp -dsimp [hs]
  all_goals try clear hs
  · rw [Bool.eq_iff_iff, dimOk_iff]; simp; omega
  · exact false_of (dimOk_iff d) (by omega)
  · exact false_of (dimOk_iff d) (by omega)
theorem ck12_iff (x : Issue) : (ck1 x && ck2 x) = true ↔ 1 ≤ x.drawing ∧ x.drawing ≤ 9999 ∧ 1 ≤ x.letter ∧ x.letter ≤ 8 ∧ (x.kind = 1 ∧ 1 ≤ x.items.length ∧ x.items.length ≤ 8 ∧ x.dims.length = 0 ∨ 2 ≤ x.kind ∧ x.kind ≤ 3 ∧ x.dims.length ≤ 4 ∧ x.items.length = 0) := by
  unfold ck1 ck2
  split
  · simp only [Bool.and_eq_true, decide_eq_true_eq]; omega
  · simp only [Bool.and_eq_true, decide_eq_true_eq]; omega
theorem itemsOk_step {d : Int} {l : List Itm} {k : Nat} (hlt : k < l.length) (hno : itemsOk d 0 l = itemsOk d (pv l k) (l.drop k)) :
    itemsOk d 0 l = true ↔ (1 ≤ l[k].drawing ∧ l[k].drawing ≤ 9999 ∧ 1 ≤ l[k].count ∧ l[k].count ≤ 20 ∧ l[k].drawing ≠ d ∧ pv l k < l[k].drawing) ∧ itemsOk d (pv l (k + 1)) (l.drop (k + 1)) = true := by
  have hx : l[k]? = some l[k] := by simp [hlt]
  have hpv1 : pv l (k + 1) = l[k].drawing := by simp [pv, hx]
  rw [hno, List.drop_eq_getElem_cons hlt, itemsOk, hpv1]
  simp only [Bool.and_eq_true, decide_eq_true_eq, Bool.not_eq_true', decide_eq_false_iff_not]
  constructor
  · rintro ⟨⟨⟨⟨⟨a, b⟩, c, d⟩, e⟩, f⟩, g⟩; exact ⟨⟨a, b, c, d, e, f⟩, g⟩
  · rintro ⟨⟨a, b, c, d, e, f⟩, g⟩; exact ⟨⟨⟨⟨⟨a, b⟩, c, d⟩, e⟩, f⟩, g⟩
theorem eq_of_step {b c : Bool} {p : Prop} (h : b = true ↔ p ∧ c = true) (hp : p) : b = c := by
  rw [Bool.eq_iff_iff, h]; exact ⟨fun h => h.2, fun h => ⟨hp, h⟩⟩
theorem false_step {b c : Bool} {p : Prop} (h : b = true ↔ p ∧ c = true) (hp : ¬ p) : b = false := false_of h fun h => hp h.1
theorem all_step {α : Type} {f : α → Bool} {l : List α} {k : Nat} (hlt : k < l.length) (hno : l.all f = (l.drop k).all f) : l.all f = true ↔ f l[k] = true ∧ (l.drop (k + 1)).all f = true := by
  rw [hno, List.drop_eq_getElem_cons hlt, List.all_cons, Bool.and_eq_true]
set_option maxHeartbeats 2000000 in
theorem issue_c (x : Issue) (hk : 0 ≤ x.kind ∧ x.kind ≤ 255) (hl : x.items.length < 1000000) (hd : x.dims.length < 1000000) (objs : List DObj) : DCall Tryd.prog G 122 [issv x] objs (fun rr objs' => rr = bv (issueOk x) ∧ objs' = objs) := by
  refine DCall.frame ?_ (by simp) (by simp) objs
  refine DCall_intro Tryd.func122 rfl Tryd.ntmps122 (by simp) rfl ?_
  try simp only [issv]
  have hw : IntKind.i64.wrap x.kind = x.kind := i64w (by omega) (by omega)
  have h12 := ck12_iff x
  generalize hA : (ck1 x && ck2 x) = A at h12
  have hs : True := trivial
  repeat' first | (with_reducible first | refine q01 ?_ | refine q02 ?_ | refine q03 ?_ | refine q04 ?_ | refine q05 ?_ | refine q06 ?_ | refine q07 (by decide) ?_ | refine q08 ?_ | refine q09 ?_ | refine q10 ?_ | refine q11 ?_ | refine q12 ?_ | refine q13 ?_ | refine q14 ?_ | refine q15 ?_ | refine q16 ?_ | refine q17 ?_ | refine And.intro (by omega) ?_) | (with_reducible refine At.fn_ret (by simp -dsimp [hw, hs]; exact rfl) ?_) | (with_reducible refine At.fn_end (by simp -dsimp [hw, hs]; exact rfl) ?_) | (refine CallE.pure (within_c (G := G) _ _ _) ?_; try simp -dsimp [hw, hs]) | (refine DT_regionM (id := 7) (nt := 117) 33 [0, 1, 2, 3, 4, 5, 57, 62, 102, 107, 116] mixed rfl (by kernel_rfl) ?_; simp -dsimp [hw, hs]) | (with_reducible refine DT_regionE [0, 1, 2, 3, 4, 5, 57, 62, 102, 107, 116] ?_; simp -dsimp [hw, hs]) | (refine DT_cond rfl (fun h => ?_) (fun h => ?_) <;> (try simp only [nrm] at h) <;> (try exact Bool.noConfusion h)) | (with_reducible refine GStop_split ?_ ?_ <;> intro h <;> have h0 := h <;> (try simp only [nrm] at h) <;> (try exact Bool.noConfusion h) <;> have h2 := h <;> (try simp at h2) <;> (replace hs := And.intro h0 (And.intro h (And.intro h2 hs))) <;> simp -dsimp [h0, h, h2, hw, hs]) | (with_reducible refine imp_At (fun h => ?_); (try simp only [List.map_eq_nil_iff] at h); (try subst h); try simp -dsimp [hw, hs]) | with_reducible refine And.intro ?_ ?_
  all_goals try simp -dsimp [hw, hs]
  all_goals try clear hs
  all_goals first
    | (have hA2 : A = false := false_of h12 (by clear h12 hA hw; omega)
       rw [hA2] at hA
       simp [issueOk, hA]; done)
    | have hA2 : A = true := true_of h12 (by clear h12 hA hw; omega)
      rw [hA2] at hA
      clear h12 hA2
      refine DT_loop (ι := { k : Nat // k ≤ x.items.length ∧ itemsOk x.drawing 0 x.items = itemsOk x.drawing (pv x.items k) (x.items.drop k) }) (fun p => ⟨117, [(1, .one (.ptr 0 0)), (2, bv false), (3, iv (p.1 : Int))], [.row ((encIssue x).map .im)]⟩) (fun p => x.items.length - p.1) ⟨0, by simp [pv]⟩ (Weak.of_keep [1,2,3] (by clear hA; simp_all)) ?_
      clear hw
      rintro ⟨k, hk, hno⟩
      simp only [iv, encIssue, rI, List.map_cons, List.map_nil]
  all_goals
    by_cases hlt : k < x.items.length
    · have hx : x.items[k]? = some x.items[k] := by simp [hlt]
      have hw : IntKind.i64.wrap ((k : Int) + 1) = ((k + 1 : Nat) : Int) := i64w (by omega) (by omega)
      have hst := itemsOk_step hlt hno
      by_cases hk0 : 0 < k
      · have hkx : x.items[k - 1]? = some x.items[k - 1] := by simp
        have hw3 : IntKind.i64.wrap ((k : Int) - 1) = ((k - 1 : Nat) : Int) := by rw [i64w (by omega) (by omega)]; omega
        have hpv0 : pv x.items k = x.items[k - 1].drawing := by
          obtain ⟨j, rfl⟩ : ∃ j, k = j + 1 := ⟨k - 1, by omega⟩
          have : x.items[j]? = some x.items[j] := by simp
          simp [pv, this]
        rw [hpv0] at hst
        have hs : True := trivial
        repeat' first | (with_reducible first | refine q01 ?_ | refine q02 ?_ | refine q03 ?_ | refine q04 ?_ | refine q05 ?_ | refine q06 ?_ | refine q07 (by decide) ?_ | refine q08 ?_ | refine q09 ?_ | refine q10 ?_ | refine q11 ?_ | refine q12 ?_ | refine q13 ?_ | refine q14 ?_ | refine q15 ?_ | refine q16 ?_ | refine q17 ?_ | refine And.intro (by omega) ?_) | (with_reducible refine At.fn_ret (by simp -dsimp [hx, hw, hw3, hkx, hk0, hlt, hs]; exact rfl) ?_) | (with_reducible refine At.fn_end (by simp -dsimp [hx, hw, hw3, hkx, hk0, hlt, hs]; exact rfl) ?_) | (refine QCall_pure (within_c (G := G) _ _ _) ?_; try simp -dsimp [hx, hw, hw3, hkx, hk0, hlt, hs]) | (refine DT_regionM (id := 7) (nt := 117) 33 [0, 1, 2, 3, 4, 5, 57, 62, 102, 107, 116] mixed rfl (by kernel_rfl) ?_; simp -dsimp [hx, hw, hw3, hkx, hk0, hlt, hs]) | (with_reducible refine DT_regionE [0, 1, 2, 3, 4, 5, 57, 62, 102, 107, 116] ?_; simp -dsimp [hx, hw, hw3, hkx, hk0, hlt, hs]) | (refine DT_cond rfl (fun h => ?_) (fun h => ?_) <;> (try simp only [nrm] at h) <;> (try exact Bool.noConfusion h)) | (with_reducible refine GStop_split ?_ ?_ <;> intro h <;> have h0 := h <;> (try simp only [nrm] at h) <;> (try exact Bool.noConfusion h) <;> have h2 := h <;> (try simp at h2) <;> (replace hs := And.intro h0 (And.intro h (And.intro h2 hs))) <;> simp -dsimp [h0, h, h2, hx, hw, hw3, hkx, hk0, hlt, hs]) | (with_reducible refine imp_At (fun h => ?_); (try simp only [List.map_eq_nil_iff] at h); (try subst h); try simp -dsimp [hx, hw, hw3, hkx, hk0, hlt, hs]) | with_reducible refine And.intro ?_ ?_
        all_goals try simp -dsimp [hx, hw, hw3, hkx, hk0, hlt, hs]
        all_goals try clear hs
        all_goals first
          | (have hf := false_step hst (by omega); simp [issueOk, hf]; done)
          | exact At.round ⟨k + 1, by omega, eq_of_step hst (by omega)⟩ (by simp; omega) (Weak.of_drop [1,2,3] 1 (by simp) (by simp) (by simp))
      · obtain rfl : k = 0 := by omega
        rw [show pv x.items 0 = 0 from rfl] at hst
        have hs : True := trivial
        repeat' first | (with_reducible first | refine q01 ?_ | refine q02 ?_ | refine q03 ?_ | refine q04 ?_ | refine q05 ?_ | refine q06 ?_ | refine q07 (by decide) ?_ | refine q08 ?_ | refine q09 ?_ | refine q10 ?_ | refine q11 ?_ | refine q12 ?_ | refine q13 ?_ | refine q14 ?_ | refine q15 ?_ | refine q16 ?_ | refine q17 ?_ | refine And.intro (by omega) ?_) | (with_reducible refine At.fn_ret (by simp -dsimp [hx, hw, hk0, hlt, hs]; exact rfl) ?_) | (with_reducible refine At.fn_end (by simp -dsimp [hx, hw, hk0, hlt, hs]; exact rfl) ?_) | (refine QCall_pure (within_c (G := G) _ _ _) ?_; try simp -dsimp [hx, hw, hk0, hlt, hs]) | (refine DT_regionM (id := 7) (nt := 117) 33 [0, 1, 2, 3, 4, 5, 57, 62, 102, 107, 116] mixed rfl (by kernel_rfl) ?_; simp -dsimp [hx, hw, hk0, hlt, hs]) | (with_reducible refine DT_regionE [0, 1, 2, 3, 4, 5, 57, 62, 102, 107, 116] ?_; simp -dsimp [hx, hw, hk0, hlt, hs]) | (refine DT_cond rfl (fun h => ?_) (fun h => ?_) <;> (try simp only [nrm] at h) <;> (try exact Bool.noConfusion h)) | (with_reducible refine GStop_split ?_ ?_ <;> intro h <;> have h0 := h <;> (try simp only [nrm] at h) <;> (try exact Bool.noConfusion h) <;> have h2 := h <;> (try simp at h2) <;> (replace hs := And.intro h0 (And.intro h (And.intro h2 hs))) <;> simp -dsimp [h0, h, h2, hx, hw, hk0, hlt, hs]) | (with_reducible refine imp_At (fun h => ?_); (try simp only [List.map_eq_nil_iff] at h); (try subst h); try simp -dsimp [hx, hw, hk0, hlt, hs]) | with_reducible refine And.intro ?_ ?_
        all_goals try simp -dsimp [hx, hw, hk0, hlt, hs]
        all_goals try clear hs
        all_goals first
          | (have hf := false_step hst (by omega); simp [issueOk, hf]; done)
          | exact At.round ⟨0 + 1, by omega, eq_of_step hst (by omega)⟩ (by simp; omega) (Weak.of_drop [1,2,3] 1 (by simp) (by simp) (by simp; exact i64w (by omega) (by omega)))
    · have hit : itemsOk x.drawing 0 x.items = true := by rw [hno, List.drop_eq_nil_of_le (by omega)]; rfl
      have hs : True := trivial
      repeat' first | (with_reducible first | refine q01 ?_ | refine q02 ?_ | refine q03 ?_ | refine q04 ?_ | refine q05 ?_ | refine q06 ?_ | refine q07 (by decide) ?_ | refine q08 ?_ | refine q09 ?_ | refine q10 ?_ | refine q11 ?_ | refine q12 ?_ | refine q13 ?_ | refine q14 ?_ | refine q15 ?_ | refine q16 ?_ | refine q17 ?_ | refine And.intro (by omega) ?_) | (with_reducible refine At.fn_ret (by simp -dsimp [hlt, hs]; exact rfl) ?_) | (with_reducible refine At.fn_end (by simp -dsimp [hlt, hs]; exact rfl) ?_) | (refine DT_regionM (id := 7) (nt := 117) 33 [0, 1, 2, 3, 4, 5, 57, 62, 102, 107, 116] mixed rfl (by kernel_rfl) ?_; simp -dsimp [hlt, hs]) | (with_reducible refine DT_regionE [0, 1, 2, 3, 4, 5, 57, 62, 102, 107, 116] ?_; simp -dsimp [hlt, hs]) | (refine DT_cond rfl (fun h => ?_) (fun h => ?_) <;> (try simp only [nrm] at h) <;> (try exact Bool.noConfusion h)) | (with_reducible refine GStop_split ?_ ?_ <;> intro h <;> have h0 := h <;> (try simp only [nrm] at h) <;> (try exact Bool.noConfusion h) <;> have h2 := h <;> (try simp at h2) <;> (replace hs := And.intro h0 (And.intro h (And.intro h2 hs))) <;> simp -dsimp [h0, h, h2, hlt, hs]) | (with_reducible refine imp_At (fun h => ?_); (try simp only [List.map_eq_nil_iff] at h); (try subst h); try simp -dsimp [hlt, hs]) | with_reducible refine And.intro ?_ ?_
      all_goals try simp -dsimp [hlt, hs]
      all_goals try clear hs
      refine DT_loop (ι := { k : Nat // k ≤ x.dims.length ∧ x.dims.all dimOk = (x.dims.drop k).all dimOk }) (fun p => ⟨117, [(1, .one (.ptr 0 0)), (2, bv false), (5, iv (p.1 : Int))], [.row ((encIssue x).map .im)]⟩) (fun p => x.dims.length - p.1) ⟨0, by simp⟩ (Weak.of_keep [1,2,5] (by simp)) ?_
      rintro ⟨j, hj, hdo⟩
      simp only [iv, encIssue, rI, List.map_cons, List.map_nil]
      by_cases hlj : j < x.dims.length
      · have hx : x.dims[j]? = some x.dims[j] := by simp [hlj]
        have hw : IntKind.i64.wrap ((j : Int) + 1) = ((j + 1 : Nat) : Int) := i64w (by omega) (by omega)
        have hst := all_step hlj hdo
        have cd := dim_c (G := G) x.dims[j]
        have hs : True := trivial
        repeat' first | (with_reducible first | refine q01 ?_ | refine q02 ?_ | refine q03 ?_ | refine q04 ?_ | refine q05 ?_ | refine q06 ?_ | refine q07 (by decide) ?_ | refine q08 ?_ | refine q09 ?_ | refine q10 ?_ | refine q11 ?_ | refine q12 ?_ | refine q13 ?_ | refine q14 ?_ | refine q15 ?_ | refine q16 ?_ | refine q17 ?_ | refine And.intro (by omega) ?_) | (with_reducible refine At.fn_ret (by simp -dsimp [hx, hw, hlj, hs]; exact rfl) ?_) | (with_reducible refine At.fn_end (by simp -dsimp [hx, hw, hlj, hs]; exact rfl) ?_) | (refine CallE.pure (cd) ?_; try simp -dsimp [hx, hw, hlj, hs]) | (refine DT_regionM (id := 7) (nt := 117) 33 [0, 1, 2, 3, 4, 5, 57, 62, 102, 107, 116] mixed rfl (by kernel_rfl) ?_; simp -dsimp [hx, hw, hlj, hs]) | (with_reducible refine DT_regionE [0, 1, 2, 3, 4, 5, 57, 62, 102, 107, 116] ?_; simp -dsimp [hx, hw, hlj, hs]) | (refine DT_cond rfl (fun h => ?_) (fun h => ?_) <;> (try simp only [nrm] at h) <;> (try exact Bool.noConfusion h)) | (with_reducible refine GStop_split ?_ ?_ <;> intro h <;> have h0 := h <;> (try simp only [nrm] at h) <;> (try exact Bool.noConfusion h) <;> have h2 := h <;> (try simp at h2) <;> (replace hs := And.intro h0 (And.intro h (And.intro h2 hs))) <;> simp -dsimp [h0, h, h2, hx, hw, hlj, hs]) | (with_reducible refine imp_At (fun h => ?_); (try simp only [List.map_eq_nil_iff] at h); (try subst h); try simp -dsimp [hx, hw, hlj, hs]) | with_reducible refine And.intro ?_ ?_
        all_goals try simp -dsimp [hx, hw, hlj, hs]
        all_goals try clear hs
        · simp only [issueOk, hA, hit, Bool.true_and]
          exact false_step hst (by rw [‹dimOk x.dims[j] = false›]; exact Bool.false_ne_true)
        · exact At.round ⟨j + 1, by omega, eq_of_step hst ‹dimOk x.dims[j] = true›⟩ (by simp; omega) (Weak.of_keep [1,2,5] (by simp))
      · have hdims : x.dims.all dimOk = true := by rw [hdo, List.drop_eq_nil_of_le (by omega)]; rfl
        have hs : True := trivial
        repeat' first | (with_reducible first | refine q01 ?_ | refine q02 ?_ | refine q03 ?_ | refine q04 ?_ | refine q05 ?_ | refine q06 ?_ | refine q07 (by decide) ?_ | refine q08 ?_ | refine q09 ?_ | refine q10 ?_ | refine q11 ?_ | refine q12 ?_ | refine q13 ?_ | refine q14 ?_ | refine q15 ?_ | refine q16 ?_ | refine q17 ?_ | refine And.intro (by omega) ?_) | (with_reducible refine At.fn_ret (by simp -dsimp [hlj, hs]; exact rfl) ?_) | (with_reducible refine At.fn_end (by simp -dsimp [hlj, hs]; exact rfl) ?_) | (refine DT_regionM (id := 7) (nt := 117) 33 [0, 1, 2, 3, 4, 5, 57, 62, 102, 107, 116] mixed rfl (by kernel_rfl) ?_; simp -dsimp [hlj, hs]) | (with_reducible refine DT_regionE [0, 1, 2, 3, 4, 5, 57, 62, 102, 107, 116] ?_; simp -dsimp [hlj, hs]) | (refine DT_cond rfl (fun h => ?_) (fun h => ?_) <;> (try simp only [nrm] at h) <;> (try exact Bool.noConfusion h)) | (with_reducible refine GStop_split ?_ ?_ <;> intro h <;> have h0 := h <;> (try simp only [nrm] at h) <;> (try exact Bool.noConfusion h) <;> have h2 := h <;> (try simp at h2) <;> (replace hs := And.intro h0 (And.intro h (And.intro h2 hs))) <;> simp -dsimp [h0, h, h2, hlj, hs]) | (with_reducible refine imp_At (fun h => ?_); (try simp only [List.map_eq_nil_iff] at h); (try subst h); try simp -dsimp [hlj, hs]) | with_reducible refine And.intro ?_ ?_
        all_goals try simp -dsimp [hlj, hs]
        all_goals try clear hs
        simp [issueOk, hA, hit, hdims]
end Go.Proofs
namespace Go.Ab
open Go
@[simp] theorem ims_set (L : List Int) (k : Nat) (v : Int) : (ims (L.map encI)).set k [DC.im (.raw (.int .i64 v))] = ims ((L.set k v).map encI) := by
  simp only [ims, List.map_set, encI, rI, List.map_cons, List.map_nil]
@[simp] theorem ims_geti (L : List Int) (k : Nat) : (ims (L.map encI))[k]? = (L[k]?).map fun v => [DC.im (.raw (.int .i64 v))] := by
  simp only [ims, List.getElem?_map, Option.map_map]; rfl
@[simp] theorem ims_getl (L : List Int) (k : Nat) (h : k < (ims (L.map encI)).length) : (ims (L.map encI))[k] = [DC.im (.raw (.int .i64 (L[k]'(by simpa [ims_length] using h))))] := by
  simp [ims]
@[simp] theorem rep_ims (n : Nat) (c : IC) : List.replicate n [DC.im c] = ims (List.replicate n [c]) := by simp [ims]
theorem rep_encI (n : Nat) (v : Int) : List.replicate n [IC.raw (.int .i64 v)] = (List.replicate n v).map encI := by simp
theorem map_rep {α β : Type} {f : α → β} {c : β} (h : ∀ x, f x = c) : ∀ l : List α, l.map f = List.replicate l.length c
  | [] => rfl
  | x :: l => by simp [map_rep h l, h x, List.replicate_succ]
@[simp] theorem take_ims_rep (n : Nat) (c : List IC) : (ims (List.replicate n c)).take n = ims (List.replicate n c) := List.take_of_length_le (by simp [ims_length])
theorem map_set_at {α β : Type} {f : α → β} {l : List α} {k : Nat} {x : α} {v : β} (hn : l.Nodup) (hk : l[k]? = some x) : (l.map f).set k v = l.map (fun y => open Classical in if y = x then v else f y) := by
  refine List.ext_getElem? fun j => ?_
  obtain ⟨hlt, he⟩ := List.getElem?_eq_some_iff.1 hk
  by_cases hj : j = k
  · subst hj
    rw [List.getElem?_set_self (by simpa using hlt), List.getElem?_map, hk]; simp
  · rw [List.getElem?_set_ne (Ne.symm hj), List.getElem?_map, List.getElem?_map]
    cases hy : l[j]? with
    | none => rfl
    | some y =>
      have : y ≠ x := fun e => hj ((List.getElem?_inj (List.getElem?_eq_some_iff.1 hy).1 hn).1 (by rw [hy, hk, e]))
      simp [this]
end Go.Ab
