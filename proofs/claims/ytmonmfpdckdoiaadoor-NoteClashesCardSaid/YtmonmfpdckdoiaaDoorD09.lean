/- Part 9 of the proof whose last text closes the card: laws and walks that hold without conditions beyond those that each theorem names. -/
import Derived.ProofKit
import Derived.LaidMore
import Derived.Stop.Joined
import Derived.Carry
import Derived.OpenShut
import Derived.Test.YtmonmfpdckdoiaaDoorProg
import Derived.KernelRfl
import Derived.Test.YtmonmfpdckdoiaaDoorD08
set_option linter.all false
set_option linter.deprecated false
namespace Go.Ab
open Go
/-! ### Arguments that read as data, as abstract cells -/
def okW (W : World) (b : Nat) : Prop := b < W.heap.size
def CellsR (W : World) (cs : List Value) (l : List IC) : Prop := cs.length = l.length ∧ ∀ (j : Nat) (c : IC) (v : Value), l[j]? = some c → cs[j]? = some v → RepI W (okW W) c v
theorem CellsR.append {W : World} {a b : List Value} {l r : List IC} (h : CellsR W a l) (k : CellsR W b r) : CellsR W (a ++ b) (l ++ r) := by
  refine ⟨by rw [List.length_append, List.length_append, h.1, k.1], fun j c v hc hv => ?_⟩
  by_cases hj : j < l.length
  · rw [List.getElem?_append_left hj] at hc
    rw [List.getElem?_append_left (by rw [h.1]; exact hj)] at hv
    exact h.2 j c v hc hv
  · rw [List.getElem?_append_right (by omega)] at hc
    rw [List.getElem?_append_right (by rw [h.1]; omega), h.1] at hv
    exact k.2 _ c v hc hv
theorem CellsR.one {W : World} {v : Value} {c : IC} (h : RepI W (okW W) c v) : CellsR W [v] [c] :=
  ⟨rfl, fun j c' v' hc hv => by
    match j with
    | 0 => simp at hc hv; subst hc; subst hv; exact h
    | j + 1 => simp at hc⟩
/-- What reads at a type, reads so. -/
def Opens (P : Program) (t : TypeId) (S : List IC → Prop) : Prop :=
  ∀ (H : Type) (enc : TypeId × Value → H) (W : World) (fuel : Nat) (cs : List Value) (x : DataW H × List MemPlace), DataW.trod enc P W 0 (fun _ => true) true fuel t cs = some x → ∃ l, S l ∧ CellsR W cs l
theorem Opens.mono {P : Program} {t : TypeId} {S S' : List IC → Prop} (h : Opens P t S) (hs : ∀ l, S l → S' l) : Opens P t S' := fun H enc W fuel cs x hx => by
  obtain ⟨l, h1, h2⟩ := h H enc W fuel cs x hx
  exact ⟨l, hs l h1, h2⟩
theorem Opens.int {P : Program} {t : TypeId} {k : IntKind} (ht : P.underlying t = some (.int k)) : Opens P t (fun l => ∃ n : Int, (k.min ≤ n ∧ n ≤ k.max) ∧ l = [.raw (.int k n)]) := fun H enc W fuel cs x hx => by
  obtain ⟨n, rfl, _, hw⟩ := DataW.trod_int ht hx
  simp only [Lit.wf, Bool.and_eq_true, decide_eq_true_eq] at hw
  exact ⟨_, ⟨n, hw, rfl⟩, .one (.raw _ rfl)⟩
theorem Opens.bool {P : Program} {t : TypeId} (ht : P.underlying t = some .bool) : Opens P t (fun l => ∃ b : Bool, l = [.raw (.bool b)]) := fun H enc W fuel cs x hx => by
  obtain ⟨b, rfl, _⟩ := DataW.trod_bool ht hx
  exact ⟨_, ⟨b, rfl⟩, .one (.raw _ rfl)⟩
theorem block_of_cell {w : World} {a : Addr} {v : Value} (h : w.cell? a = some v) : a.block < w.heap.size := by
  unfold World.cell? at h
  refine Nat.lt_of_not_le fun hge => ?_
  have : w.heap[a.block]? = none := Array.getElem?_eq_none hge
  simp [this] at h
theorem exists_list {α : Type} {n : Nat} {p : Nat → α → Prop} (h : ∀ i, i < n → ∃ a, p i a) : ∃ l : List α, l.length = n ∧ ∀ (i : Nat) (a : α), l[i]? = some a → p i a := by
  induction n with
  | zero => exact ⟨[], rfl, fun i a h => by simp at h⟩
  | succ n ih =>
    obtain ⟨l, h1, h2⟩ := ih fun i hi => h i (by omega)
    obtain ⟨a, ha⟩ := h n (by omega)
    refine ⟨l ++ [a], by simp [h1], fun i b hb => ?_⟩
    by_cases hi : i < l.length
    · rw [List.getElem?_append_left hi] at hb; exact h2 i b hb
    · rw [List.getElem?_append_right (by omega)] at hb
      have h0 : i - l.length = 0 := by
        have := lt_of_getElem? hb; simp at this; omega
      rw [h0] at hb
      simp at hb; subst hb
      rw [show i = n by omega]; exact ha
theorem add2 (b o i j : Nat) : ((⟨b, o, none⟩ : Addr).add i).add j = ⟨b, o + i + j, none⟩ := by
  unfold Addr.add
  by_cases hi : i = 0 <;> by_cases hj : j = 0 <;> simp [hi, hj]
theorem Opens.slice {P : Program} {t e : TypeId} {S : List IC → Prop} {sz : Nat} (ht : P.underlying t = some (.slice e)) (hc : P.cellsOf e = sz) (h0 : 0 < sz) (he : Opens P e S) (hS : ∀ l, S l → l.length = sz) :
    Opens P t (fun l => ∃ es : List (List IC), (∀ x ∈ es, S x) ∧ l = [.sl es]) := fun H enc W fuel cs x hx => by
  rcases DataW.trod_slice ht hx with ⟨rfl, _⟩ | ⟨a, len, cap, elems, rest, n, _, rfl, _, _, hl, _, hlen, hel, _⟩
  · exact ⟨_, ⟨[], by simp, rfl⟩, .one .slnil⟩
  · rw [hc] at hel
    have key : ∀ i, i < len → ∃ q : List IC × List Value, S q.1 ∧ W.cells? 0 (a.add (i * sz)) sz = some q.2 ∧ CellsR W q.2 q.1 := fun i hi => by
      have hE := hel i hi
      have hel' : elems[i]? = some elems[i] := by simp [hlen, hi]
      rw [hel', Option.bind_eq_some_iff] at hE
      obtain ⟨c1, hc1, hy⟩ := hE
      obtain ⟨l, hS1, hR⟩ := he H enc W n c1 _ hy
      exact ⟨(l, c1), hS1, hc1, hR⟩
    obtain ⟨q, hq1, hq2⟩ := exists_list key
    refine ⟨_, ⟨q.map (·.1), fun x hx => ?_, rfl⟩, .one ?_⟩
    · obtain ⟨y, hy, rfl⟩ := List.mem_map.1 hx
      obtain ⟨i, hi⟩ := List.mem_iff_getElem?.1 hy
      exact (hq2 i y hi).1
    · by_cases hz : len = 0
      · subst hz
        have : q = [] := List.length_eq_zero_iff.1 hq1
        subst this
        exact .slz a cap
      · have cell : ∀ (i : Nat) (y : List IC × List Value) (j : Nat) (v : Value), q[i]? = some y → y.2[j]? = some v → j < sz → W.cell? ((a.add (i * sz)).add j) = some v := fun i y j v hy hv hj => by
          obtain ⟨_, h2, _⟩ := hq2 i y hy
          obtain ⟨_, _, h4⟩ := World.cells?_some h2
          rw [h4 j hj]; exact hv
        have hq0 : 0 < q.length := by omega
        have hy0 : q[0]? = some q[0] := by simp
        obtain ⟨s1, s2, s3⟩ := hq2 0 q[0] hy0
        obtain ⟨_, s5, _⟩ := World.cells?_some s2
        have hl0 : 0 < (q[0]).2.length := by rw [s5]; exact h0
        have hv0 : (q[0]).2[0]? = some (q[0]).2[0] := by simp
        have hcell0 := cell 0 q[0] 0 _ hy0 hv0 h0
        have hspot : a.spot = none := by
          have := World.cell?_spot hcell0
          simpa [Addr.add] using this
        have hblk : a.block < W.heap.size := by
          have := block_of_cell hcell0
          simpa [Addr.add] using this
        have hll : (q.map (·.1)).length = len := by simp [hq1]
        rw [← hll]
        refine .sl _ a cap sz (fun i j => (((q[i]?).map (·.2)).getD [])[j]?.getD undef) hspot (fun _ => hblk) (by rw [hll]; exact hl) (fun i x hx => ?_) (fun i x j c hx hj => ?_) (fun i x j c hx hj => ?_)
        · rw [List.getElem?_map, Option.map_eq_some_iff] at hx
          obtain ⟨y, hy, rfl⟩ := hx
          exact hS _ (hq2 i y hy).1
        · rw [List.getElem?_map, Option.map_eq_some_iff] at hx
          obtain ⟨y, hy, rfl⟩ := hx
          obtain ⟨t1, t2, t3⟩ := hq2 i y hy
          have hjl := lt_of_getElem? hj
          have hjs : j < sz := by rw [← hS _ t1]; exact hjl
          have hjl2 : j < y.2.length := by rw [t3.1]; exact hjl
          have hv : y.2[j]? = some y.2[j] := by simp [hjl2]
          have := cell i y j _ hy hv hjs
          simp only [hy, Option.map_some, Option.getD_some, hv]
          have ha : (⟨a.block, a.off + i * sz + j, none⟩ : Addr) = (a.add (i * sz)).add j := by
            obtain ⟨b, o, s⟩ := a
            simp only at hspot
            subst hspot
            exact (add2 b o (i * sz) j).symm
          rw [ha]; exact this
        · rw [List.getElem?_map, Option.map_eq_some_iff] at hx
          obtain ⟨y, hy, rfl⟩ := hx
          obtain ⟨t1, t2, t3⟩ := hq2 i y hy
          have hjl := lt_of_getElem? hj
          have hjl2 : j < y.2.length := by rw [t3.1]; exact hjl
          have hv : y.2[j]? = some y.2[j] := by simp [hjl2]
          simp only [hy, Option.map_some, Option.getD_some, hv]
          exact t3.2 j c _ hj hv
/-- The fields lie one behind another. -/
def tilesB (P : Program) : List Field → Nat → Nat → Bool
  | [], o, e => decide (o = e)
  | f :: fs, o, e => decide (f.offset = o) && tilesB P fs (o + P.cellsOf f.type) e
theorem tiles_le {P : Program} : ∀ {fs : List Field} {o e : Nat}, tilesB P fs o e = true → o ≤ e
  | [], o, e, h => by simp [tilesB] at h; omega
  | f :: fs, o, e, h => by
    simp only [tilesB, Bool.and_eq_true] at h
    have := tiles_le h.2; omega
theorem fields_cells {P : Program} {W : World} {cs : List Value} : ∀ (fs : List Field) (o e : Nat) (S : Nat → List IC → Prop), tilesB P fs o e = true → e ≤ cs.length → (∀ (i : Nat) (f : Field), fs[i]? = some f → ∃ l, S i l ∧ CellsR W ((cs.drop f.offset).take (P.cellsOf f.type)) l) →
    ∃ ls : List (List IC), ls.length = fs.length ∧ (∀ (i : Nat) (l : List IC), ls[i]? = some l → S i l) ∧ CellsR W ((cs.drop o).take (e - o)) ls.flatten
  | [], o, e, S, ht, _, _ => by
    simp [tilesB] at ht
    subst ht
    exact ⟨[], rfl, fun i l h => by simp at h, by simp [CellsR]⟩
  | f :: fs, o, e, S, ht, he, hS => by
    simp only [tilesB, Bool.and_eq_true, decide_eq_true_eq] at ht
    obtain ⟨rfl, ht⟩ := ht
    obtain ⟨l, h1, h2⟩ := hS 0 f rfl
    obtain ⟨ls, h3, h4, h5⟩ := fields_cells fs _ e (fun i => S (i + 1)) ht he fun i g hg => hS (i + 1) g (by simpa using hg)
    have hle := tiles_le ht
    refine ⟨l :: ls, by simp [h3], fun i k hk => ?_, ?_⟩
    · cases i with
      | zero => simp at hk; subst hk; exact h1
      | succ i => exact h4 i k (by simpa using hk)
    · rw [List.flatten_cons]
      have hsplit : (cs.drop f.offset).take (e - f.offset) = (cs.drop f.offset).take (P.cellsOf f.type) ++ (cs.drop (f.offset + P.cellsOf f.type)).take (e - (f.offset + P.cellsOf f.type)) := by
        rw [show e - f.offset = P.cellsOf f.type + (e - (f.offset + P.cellsOf f.type)) by omega, List.take_add, List.drop_drop]
      rw [hsplit]
      exact h2.append h5
theorem Opens.struct {P : Program} {t : TypeId} {fs : Array Field} (ht : P.underlying t = some (.struct fs)) (htile : tilesB P fs.toList 0 (P.cellsOf t) = true) (S : Nat → List IC → Prop) (hS : ∀ (i : Nat) (f : Field), fs.toList[i]? = some f → Opens P f.type (S i)) :
    Opens P t (fun l => ∃ ls : List (List IC), ls.length = fs.size ∧ (∀ (i : Nat) (k : List IC), ls[i]? = some k → S i k) ∧ l = ls.flatten) := fun H enc W fuel cs x hx => by
  obtain ⟨xs, n, _, _, hlen, hxl, hf⟩ := DataW.trod_struct ht hx
  obtain ⟨ls, h1, h2, h3⟩ := fields_cells (P := P) (W := W) (cs := cs) fs.toList 0 (P.cellsOf t) S htile (by omega) fun i f hi => by
    have hi' : fs[i]? = some f := by rw [← Array.getElem?_toList]; exact hi
    have hil : i < fs.size := (Array.getElem?_eq_some_iff.1 hi').1
    have h := hf i f hi'
    have hx' : xs[i]? = some xs[i] := by simp [hxl, hil]
    rw [hx'] at h
    exact hS i f hi H enc W n _ _ h
  refine ⟨_, ⟨ls, by simpa using h1, h2, rfl⟩, ?_⟩
  have : (cs.drop 0).take (P.cellsOf t - 0) = cs := by simp [← hlen]
  rw [this] at h3; exact h3
/-! ### From a contract to a run -/
/-- The whole of a world, nobody's. -/
def bareM (W : World) : MS := { w := W, β := fun _ => 0, objs := [], F := fun _ => False }
theorem bare_ok (W : World) (b : Nat) : (bareM W).ok b ↔ okW W b := by
  simp [MS.ok, MS.free, MS.live, bareM, okW]
theorem bare_rel {G : Nat → Option (List IC)} {W : World} (h : ∀ g l, G g = some l → RepI W (okW W) (.ip l) (.pointer (some ⟨g, 0, none⟩))) : RelM G (bareM W) :=
  ⟨fun o d ho => by simp [bareM] at ho, fun o d ho => by simp [bareM] at ho, fun o o' d d' ho => by simp [bareM] at ho, fun g l hg => (h g l hg).mono fun b hb => ⟨(bare_ok W b).2 hb, rfl⟩, fun b hb => hb.elim, fun o d ho => by simp [bareM] at ho⟩
theorem RepV.ofCells {W : World} {cs : Array Value} {l : List IC} (h : CellsR W cs.toList l) : RepV (bareM W) (.agg (l.map .im)) (.agg cs) := by
  refine .agg _ _ (by simpa using h.1.symm) fun j c v hj hv => ?_
  rw [List.getElem?_map, Option.map_eq_some_iff] at hj
  obtain ⟨c0, hc, rfl⟩ := hj
  rw [← Array.getElem?_toList] at hv
  exact .im _ _ ((h.2 j c0 v hc hv).mono fun b hb => ⟨(bare_ok W b).2 hb, rfl⟩)
theorem RepV.ofCell {W : World} {v : Value} {c : IC} (h : CellsR W [v] [c]) : RepV (bareM W) (.one (.im c)) v :=
  .one _ _ (.im _ _ ((h.2 0 c v rfl rfl).mono fun b hb => ⟨(bare_ok W b).2 hb, rfl⟩))
/-- A contract of a function that only computes, at a start: the run's ending, and that all stays. -/
theorem DCall.calls {P : Program} {G : Nat → Option (List IC)} {f : FuncId} {args : List DV} {u : Value} {W : World} {vs : Array Value} (h : DCall P G f args [] (fun d o => d = .one (.im (.raw u)) ∧ o = []))
    (hG : ∀ g l, G g = some l → RepI W (okW W) (.ip l) (.pointer (some ⟨g, 0, none⟩))) (hs : vs.size = args.length) (ha : ∀ (j : Nat) (d : DV) (v : Value), args[j]? = some d → vs[j]? = some v → RepV (bareM W) d v) :
    Calls P f vs W fun e W' => e = .returned u ∧ Go.RowKit.Below W.heap.size W W' := by
  refine (h (bareM W) vs (bare_rel hG) rfl hs ha).mono ?_
  rintro e w' ⟨v, d, M', rfl, rfl, _, hv, he, rfl, _⟩
  have hvu : v = u := by
    cases hv with
    | one _ _ hc => cases hc with
      | im _ _ hi => cases hi; rfl
  subst hvu
  exact ⟨rfl, ⟨he.io.os, he.io.tape, he.io.output, he.hs, fun k hk => (he.free k ⟨hk, fun ⟨o, d, h1, _⟩ => by simp [bareM] at h1⟩).2⟩⟩
end Go.Ab
namespace Go.Proofs
open Go Go.Ab
@[simp] theorem Tryd.tsz3 : tsz Tryd.prog 3 = some 1 := by kernel_rfl
@[simp] theorem Tryd.tag3 : tag Tryd.prog 3 = some false := by kernel_rfl
@[simp] theorem Tryd.telem3 : telem Tryd.prog 3 = none := by kernel_rfl
@[simp] theorem Tryd.tarr3 : tarr Tryd.prog 3 = none := by kernel_rfl
@[simp] theorem Tryd.tint3 : tint Tryd.prog 3 = some .i64 := by kernel_rfl
@[simp] theorem Tryd.tbool3 : tbool Tryd.prog 3 = false := by kernel_rfl
@[simp] theorem Tryd.tbytes3 : tbytes Tryd.prog 3 = some 8 := by kernel_rfl
@[simp] theorem Tryd.tzero3 : tzero Tryd.prog 3 = some [.int .i64 0] := by kernel_rfl
@[simp] theorem Tryd.tsz4 : tsz Tryd.prog 4 = some 1 := by kernel_rfl
@[simp] theorem Tryd.tag4 : tag Tryd.prog 4 = some false := by kernel_rfl
@[simp] theorem Tryd.telem4 : telem Tryd.prog 4 = none := by kernel_rfl
@[simp] theorem Tryd.tarr4 : tarr Tryd.prog 4 = none := by kernel_rfl
@[simp] theorem Tryd.tint4 : tint Tryd.prog 4 = none := by kernel_rfl
@[simp] theorem Tryd.tbool4 : tbool Tryd.prog 4 = true := by kernel_rfl
@[simp] theorem Tryd.tbytes4 : tbytes Tryd.prog 4 = some 1 := by kernel_rfl
@[simp] theorem Tryd.tzero4 : tzero Tryd.prog 4 = some [.bool false] := by kernel_rfl
@[simp] theorem Tryd.tsz5 : tsz Tryd.prog 5 = some 1 := by kernel_rfl
@[simp] theorem Tryd.tag5 : tag Tryd.prog 5 = some false := by kernel_rfl
@[simp] theorem Tryd.telem5 : telem Tryd.prog 5 = none := by kernel_rfl
@[simp] theorem Tryd.tarr5 : tarr Tryd.prog 5 = none := by kernel_rfl
@[simp] theorem Tryd.tint5 : tint Tryd.prog 5 = some .u8 := by kernel_rfl
@[simp] theorem Tryd.tbool5 : tbool Tryd.prog 5 = false := by kernel_rfl
@[simp] theorem Tryd.tbytes5 : tbytes Tryd.prog 5 = some 1 := by kernel_rfl
@[simp] theorem Tryd.tzero5 : tzero Tryd.prog 5 = some [.int .u8 0] := by kernel_rfl
@[simp] theorem Tryd.tsz9 : tsz Tryd.prog 9 = some 1 := by kernel_rfl
@[simp] theorem Tryd.tag9 : tag Tryd.prog 9 = some false := by kernel_rfl
@[simp] theorem Tryd.telem9 : telem Tryd.prog 9 = none := by kernel_rfl
@[simp] theorem Tryd.tarr9 : tarr Tryd.prog 9 = none := by kernel_rfl
@[simp] theorem Tryd.tint9 : tint Tryd.prog 9 = none := by kernel_rfl
@[simp] theorem Tryd.tbool9 : tbool Tryd.prog 9 = false := by kernel_rfl
@[simp] theorem Tryd.tbytes9 : tbytes Tryd.prog 9 = some 16 := by kernel_rfl
@[simp] theorem Tryd.tsz22 : tsz Tryd.prog 22 = some 1 := by kernel_rfl
@[simp] theorem Tryd.tag22 : tag Tryd.prog 22 = some false := by kernel_rfl
@[simp] theorem Tryd.telem22 : telem Tryd.prog 22 = some 135 := by kernel_rfl
@[simp] theorem Tryd.tarr22 : tarr Tryd.prog 22 = none := by kernel_rfl
@[simp] theorem Tryd.tint22 : tint Tryd.prog 22 = none := by kernel_rfl
@[simp] theorem Tryd.tbool22 : tbool Tryd.prog 22 = false := by kernel_rfl
@[simp] theorem Tryd.tbytes22 : tbytes Tryd.prog 22 = some 24 := by kernel_rfl
@[simp] theorem Tryd.tzero22 : tzero Tryd.prog 22 = some [.slice none 0 0] := by kernel_rfl
@[simp] theorem Tryd.tsz24 : tsz Tryd.prog 24 = some 1 := by kernel_rfl
@[simp] theorem Tryd.tag24 : tag Tryd.prog 24 = some true := by kernel_rfl
@[simp] theorem Tryd.telem24 : telem Tryd.prog 24 = none := by kernel_rfl
@[simp] theorem Tryd.tarr24 : tarr Tryd.prog 24 = none := by kernel_rfl
@[simp] theorem Tryd.tint24 : tint Tryd.prog 24 = none := by kernel_rfl
@[simp] theorem Tryd.tbool24 : tbool Tryd.prog 24 = false := by kernel_rfl
@[simp] theorem Tryd.tbytes24 : tbytes Tryd.prog 24 = some 24 := by kernel_rfl
@[simp] theorem Tryd.tzero24 : tzero Tryd.prog 24 = some [.slice none 0 0] := by kernel_rfl
@[simp] theorem Tryd.toff24_0 : toff Tryd.prog 24 0 = some 0 := by kernel_rfl
@[simp] theorem Tryd.tfield24_0 : tfield Tryd.prog 24 0 = some (0, 1, false) := by kernel_rfl
@[simp] theorem Tryd.places24 : placesOf Tryd.prog 24 = some [(0, 1)] := by kernel_rfl
@[simp] theorem Tryd.tsz25 : tsz Tryd.prog 25 = some 1 := by kernel_rfl
@[simp] theorem Tryd.tag25 : tag Tryd.prog 25 = some false := by kernel_rfl
@[simp] theorem Tryd.telem25 : telem Tryd.prog 25 = some 3 := by kernel_rfl
@[simp] theorem Tryd.tarr25 : tarr Tryd.prog 25 = none := by kernel_rfl
@[simp] theorem Tryd.tint25 : tint Tryd.prog 25 = none := by kernel_rfl
@[simp] theorem Tryd.tbool25 : tbool Tryd.prog 25 = false := by kernel_rfl
@[simp] theorem Tryd.tbytes25 : tbytes Tryd.prog 25 = some 24 := by kernel_rfl
@[simp] theorem Tryd.tzero25 : tzero Tryd.prog 25 = some [.slice none 0 0] := by kernel_rfl
@[simp] theorem Tryd.tsz26 : tsz Tryd.prog 26 = some 1 := by kernel_rfl
@[simp] theorem Tryd.tag26 : tag Tryd.prog 26 = some false := by kernel_rfl
@[simp] theorem Tryd.telem26 : telem Tryd.prog 26 = some 87 := by kernel_rfl
@[simp] theorem Tryd.tarr26 : tarr Tryd.prog 26 = none := by kernel_rfl
@[simp] theorem Tryd.tint26 : tint Tryd.prog 26 = none := by kernel_rfl
@[simp] theorem Tryd.tbool26 : tbool Tryd.prog 26 = false := by kernel_rfl
@[simp] theorem Tryd.tbytes26 : tbytes Tryd.prog 26 = some 24 := by kernel_rfl
@[simp] theorem Tryd.tzero26 : tzero Tryd.prog 26 = some [.slice none 0 0] := by kernel_rfl
@[simp] theorem Tryd.tsz28 : tsz Tryd.prog 28 = some 4 := by kernel_rfl
@[simp] theorem Tryd.tag28 : tag Tryd.prog 28 = some true := by kernel_rfl
@[simp] theorem Tryd.telem28 : telem Tryd.prog 28 = none := by kernel_rfl
@[simp] theorem Tryd.tarr28 : tarr Tryd.prog 28 = none := by kernel_rfl
@[simp] theorem Tryd.tint28 : tint Tryd.prog 28 = none := by kernel_rfl
@[simp] theorem Tryd.tbool28 : tbool Tryd.prog 28 = false := by kernel_rfl
@[simp] theorem Tryd.tbytes28 : tbytes Tryd.prog 28 = some 80 := by kernel_rfl
@[simp] theorem Tryd.tzero28 : tzero Tryd.prog 28 = some [.slice none 0 0, .slice none 0 0, .int .i64 0, .slice none 0 0] := by kernel_rfl
@[simp] theorem Tryd.toff28_0 : toff Tryd.prog 28 0 = some 0 := by kernel_rfl
@[simp] theorem Tryd.tfield28_0 : tfield Tryd.prog 28 0 = some (0, 1, true) := by kernel_rfl
@[simp] theorem Tryd.toff28_1 : toff Tryd.prog 28 1 = some 1 := by kernel_rfl
@[simp] theorem Tryd.tfield28_1 : tfield Tryd.prog 28 1 = some (1, 1, false) := by kernel_rfl
@[simp] theorem Tryd.toff28_2 : toff Tryd.prog 28 2 = some 2 := by kernel_rfl
@[simp] theorem Tryd.tfield28_2 : tfield Tryd.prog 28 2 = some (2, 1, false) := by kernel_rfl
@[simp] theorem Tryd.toff28_3 : toff Tryd.prog 28 3 = some 3 := by kernel_rfl
@[simp] theorem Tryd.tfield28_3 : tfield Tryd.prog 28 3 = some (3, 1, false) := by kernel_rfl
@[simp] theorem Tryd.places28 : placesOf Tryd.prog 28 = some [(0, 1), (1, 1), (2, 1), (3, 1)] := by kernel_rfl
@[simp] theorem Tryd.tsz32 : tsz Tryd.prog 32 = some 2 := by kernel_rfl
@[simp] theorem Tryd.tag32 : tag Tryd.prog 32 = some true := by kernel_rfl
@[simp] theorem Tryd.telem32 : telem Tryd.prog 32 = none := by kernel_rfl
@[simp] theorem Tryd.tarr32 : tarr Tryd.prog 32 = none := by kernel_rfl
@[simp] theorem Tryd.tint32 : tint Tryd.prog 32 = none := by kernel_rfl
@[simp] theorem Tryd.tbool32 : tbool Tryd.prog 32 = false := by kernel_rfl
@[simp] theorem Tryd.tbytes32 : tbytes Tryd.prog 32 = some 16 := by kernel_rfl
@[simp] theorem Tryd.tzero32 : tzero Tryd.prog 32 = some [.int .i64 0, .int .i64 0] := by kernel_rfl
@[simp] theorem Tryd.toff32_0 : toff Tryd.prog 32 0 = some 0 := by kernel_rfl
@[simp] theorem Tryd.tfield32_0 : tfield Tryd.prog 32 0 = some (0, 1, false) := by kernel_rfl
@[simp] theorem Tryd.toff32_1 : toff Tryd.prog 32 1 = some 1 := by kernel_rfl
@[simp] theorem Tryd.tfield32_1 : tfield Tryd.prog 32 1 = some (1, 1, false) := by kernel_rfl
@[simp] theorem Tryd.eqShape32 : eqShape Tryd.prog 32 = some [.int .i64, .int .i64] := by kernel_rfl
@[simp] theorem Tryd.places32 : placesOf Tryd.prog 32 = some [(0, 1), (1, 1)] := by kernel_rfl
@[simp] theorem Tryd.tsz33 : tsz Tryd.prog 33 = some 1 := by kernel_rfl
@[simp] theorem Tryd.tag33 : tag Tryd.prog 33 = some false := by kernel_rfl
@[simp] theorem Tryd.telem33 : telem Tryd.prog 33 = none := by kernel_rfl
@[simp] theorem Tryd.tarr33 : tarr Tryd.prog 33 = none := by kernel_rfl
@[simp] theorem Tryd.tint33 : tint Tryd.prog 33 = some .i64 := by kernel_rfl
@[simp] theorem Tryd.tbool33 : tbool Tryd.prog 33 = false := by kernel_rfl
@[simp] theorem Tryd.tbytes33 : tbytes Tryd.prog 33 = some 8 := by kernel_rfl
@[simp] theorem Tryd.tzero33 : tzero Tryd.prog 33 = some [.int .i64 0] := by kernel_rfl
@[simp] theorem Tryd.tsz46 : tsz Tryd.prog 46 = some 1 := by kernel_rfl
@[simp] theorem Tryd.tag46 : tag Tryd.prog 46 = some false := by kernel_rfl
@[simp] theorem Tryd.telem46 : telem Tryd.prog 46 = some 110 := by kernel_rfl
@[simp] theorem Tryd.tarr46 : tarr Tryd.prog 46 = none := by kernel_rfl
@[simp] theorem Tryd.tint46 : tint Tryd.prog 46 = none := by kernel_rfl
@[simp] theorem Tryd.tbool46 : tbool Tryd.prog 46 = false := by kernel_rfl
@[simp] theorem Tryd.tbytes46 : tbytes Tryd.prog 46 = some 24 := by kernel_rfl
@[simp] theorem Tryd.tzero46 : tzero Tryd.prog 46 = some [.slice none 0 0] := by kernel_rfl
@[simp] theorem Tryd.tsz48 : tsz Tryd.prog 48 = some 2 := by kernel_rfl
@[simp] theorem Tryd.tag48 : tag Tryd.prog 48 = some true := by kernel_rfl
@[simp] theorem Tryd.telem48 : telem Tryd.prog 48 = none := by kernel_rfl
@[simp] theorem Tryd.tarr48 : tarr Tryd.prog 48 = none := by kernel_rfl
@[simp] theorem Tryd.tint48 : tint Tryd.prog 48 = none := by kernel_rfl
@[simp] theorem Tryd.tbool48 : tbool Tryd.prog 48 = false := by kernel_rfl
@[simp] theorem Tryd.tbytes48 : tbytes Tryd.prog 48 = some 48 := by kernel_rfl
@[simp] theorem Tryd.tzero48 : tzero Tryd.prog 48 = some [.slice none 0 0, .slice none 0 0] := by kernel_rfl
@[simp] theorem Tryd.toff48_0 : toff Tryd.prog 48 0 = some 0 := by kernel_rfl
@[simp] theorem Tryd.tfield48_0 : tfield Tryd.prog 48 0 = some (0, 1, true) := by kernel_rfl
@[simp] theorem Tryd.toff48_1 : toff Tryd.prog 48 1 = some 1 := by kernel_rfl
@[simp] theorem Tryd.tfield48_1 : tfield Tryd.prog 48 1 = some (1, 1, false) := by kernel_rfl
@[simp] theorem Tryd.places48 : placesOf Tryd.prog 48 = some [(0, 1), (1, 1)] := by kernel_rfl
@[simp] theorem Tryd.tsz65 : tsz Tryd.prog 65 = some 2 := by kernel_rfl
@[simp] theorem Tryd.tag65 : tag Tryd.prog 65 = some true := by kernel_rfl
@[simp] theorem Tryd.telem65 : telem Tryd.prog 65 = none := by kernel_rfl
@[simp] theorem Tryd.tarr65 : tarr Tryd.prog 65 = none := by kernel_rfl
@[simp] theorem Tryd.tint65 : tint Tryd.prog 65 = none := by kernel_rfl
@[simp] theorem Tryd.tbool65 : tbool Tryd.prog 65 = false := by kernel_rfl
@[simp] theorem Tryd.tbytes65 : tbytes Tryd.prog 65 = some 16 := by kernel_rfl
@[simp] theorem Tryd.tzero65 : tzero Tryd.prog 65 = some [.int .i64 0, .int .i64 0] := by kernel_rfl
@[simp] theorem Tryd.toff65_0 : toff Tryd.prog 65 0 = some 0 := by kernel_rfl
@[simp] theorem Tryd.tfield65_0 : tfield Tryd.prog 65 0 = some (0, 1, false) := by kernel_rfl
@[simp] theorem Tryd.toff65_1 : toff Tryd.prog 65 1 = some 1 := by kernel_rfl
@[simp] theorem Tryd.tfield65_1 : tfield Tryd.prog 65 1 = some (1, 1, false) := by kernel_rfl
@[simp] theorem Tryd.eqShape65 : eqShape Tryd.prog 65 = some [.int .i64, .int .i64] := by kernel_rfl
@[simp] theorem Tryd.places65 : placesOf Tryd.prog 65 = some [(0, 1), (1, 1)] := by kernel_rfl
@[simp] theorem Tryd.tsz66 : tsz Tryd.prog 66 = some 1 := by kernel_rfl
@[simp] theorem Tryd.tag66 : tag Tryd.prog 66 = some false := by kernel_rfl
@[simp] theorem Tryd.telem66 : telem Tryd.prog 66 = some 123 := by kernel_rfl
@[simp] theorem Tryd.tarr66 : tarr Tryd.prog 66 = none := by kernel_rfl
@[simp] theorem Tryd.tint66 : tint Tryd.prog 66 = none := by kernel_rfl
@[simp] theorem Tryd.tbool66 : tbool Tryd.prog 66 = false := by kernel_rfl
@[simp] theorem Tryd.tbytes66 : tbytes Tryd.prog 66 = some 24 := by kernel_rfl
@[simp] theorem Tryd.tzero66 : tzero Tryd.prog 66 = some [.slice none 0 0] := by kernel_rfl
@[simp] theorem Tryd.tsz75 : tsz Tryd.prog 75 = some 1 := by kernel_rfl
@[simp] theorem Tryd.tag75 : tag Tryd.prog 75 = some false := by kernel_rfl
@[simp] theorem Tryd.telem75 : telem Tryd.prog 75 = some 132 := by kernel_rfl
@[simp] theorem Tryd.tarr75 : tarr Tryd.prog 75 = none := by kernel_rfl
@[simp] theorem Tryd.tint75 : tint Tryd.prog 75 = none := by kernel_rfl
@[simp] theorem Tryd.tbool75 : tbool Tryd.prog 75 = false := by kernel_rfl
@[simp] theorem Tryd.tbytes75 : tbytes Tryd.prog 75 = some 24 := by kernel_rfl
@[simp] theorem Tryd.tzero75 : tzero Tryd.prog 75 = some [.slice none 0 0] := by kernel_rfl
@[simp] theorem Tryd.tsz85 : tsz Tryd.prog 85 = some 1 := by kernel_rfl
@[simp] theorem Tryd.tag85 : tag Tryd.prog 85 = some false := by kernel_rfl
@[simp] theorem Tryd.telem85 : telem Tryd.prog 85 = some 103 := by kernel_rfl
@[simp] theorem Tryd.tarr85 : tarr Tryd.prog 85 = none := by kernel_rfl
@[simp] theorem Tryd.tint85 : tint Tryd.prog 85 = none := by kernel_rfl
@[simp] theorem Tryd.tbool85 : tbool Tryd.prog 85 = false := by kernel_rfl
@[simp] theorem Tryd.tbytes85 : tbytes Tryd.prog 85 = some 24 := by kernel_rfl
@[simp] theorem Tryd.tzero85 : tzero Tryd.prog 85 = some [.slice none 0 0] := by kernel_rfl
@[simp] theorem Tryd.tsz87 : tsz Tryd.prog 87 = some 3 := by kernel_rfl
@[simp] theorem Tryd.tag87 : tag Tryd.prog 87 = some true := by kernel_rfl
@[simp] theorem Tryd.telem87 : telem Tryd.prog 87 = none := by kernel_rfl
@[simp] theorem Tryd.tarr87 : tarr Tryd.prog 87 = none := by kernel_rfl
@[simp] theorem Tryd.tint87 : tint Tryd.prog 87 = none := by kernel_rfl
@[simp] theorem Tryd.tbool87 : tbool Tryd.prog 87 = false := by kernel_rfl
@[simp] theorem Tryd.tbytes87 : tbytes Tryd.prog 87 = some 40 := by kernel_rfl
@[simp] theorem Tryd.tzero87 : tzero Tryd.prog 87 = some [.slice none 0 0, .int .i64 0, .int .i64 0] := by kernel_rfl
@[simp] theorem Tryd.toff87_0 : toff Tryd.prog 87 0 = some 0 := by kernel_rfl
@[simp] theorem Tryd.tfield87_0 : tfield Tryd.prog 87 0 = some (0, 1, false) := by kernel_rfl
@[simp] theorem Tryd.toff87_1 : toff Tryd.prog 87 1 = some 1 := by kernel_rfl
@[simp] theorem Tryd.tfield87_1 : tfield Tryd.prog 87 1 = some (1, 2, true) := by kernel_rfl
@[simp] theorem Tryd.places87 : placesOf Tryd.prog 87 = some [(0, 1), (1, 2)] := by kernel_rfl
@[simp] theorem Tryd.tsz89 : tsz Tryd.prog 89 = some 1 := by kernel_rfl
@[simp] theorem Tryd.tag89 : tag Tryd.prog 89 = some false := by kernel_rfl
@[simp] theorem Tryd.telem89 : telem Tryd.prog 89 = none := by kernel_rfl
@[simp] theorem Tryd.tarr89 : tarr Tryd.prog 89 = none := by kernel_rfl
@[simp] theorem Tryd.tint89 : tint Tryd.prog 89 = none := by kernel_rfl
@[simp] theorem Tryd.tbool89 : tbool Tryd.prog 89 = false := by kernel_rfl
@[simp] theorem Tryd.tbytes89 : tbytes Tryd.prog 89 = some 8 := by kernel_rfl
@[simp] theorem Tryd.tzero89 : tzero Tryd.prog 89 = some [.pointer none] := by kernel_rfl
@[simp] theorem Tryd.tsz93 : tsz Tryd.prog 93 = some 1 := by kernel_rfl
@[simp] theorem Tryd.tag93 : tag Tryd.prog 93 = some false := by kernel_rfl
@[simp] theorem Tryd.telem93 : telem Tryd.prog 93 = some 143 := by kernel_rfl
@[simp] theorem Tryd.tarr93 : tarr Tryd.prog 93 = none := by kernel_rfl
@[simp] theorem Tryd.tint93 : tint Tryd.prog 93 = none := by kernel_rfl
@[simp] theorem Tryd.tbool93 : tbool Tryd.prog 93 = false := by kernel_rfl
@[simp] theorem Tryd.tbytes93 : tbytes Tryd.prog 93 = some 24 := by kernel_rfl
@[simp] theorem Tryd.tzero93 : tzero Tryd.prog 93 = some [.slice none 0 0] := by kernel_rfl
@[simp] theorem Tryd.tsz95 : tsz Tryd.prog 95 = some 1 := by kernel_rfl
@[simp] theorem Tryd.tag95 : tag Tryd.prog 95 = some false := by kernel_rfl
@[simp] theorem Tryd.telem95 : telem Tryd.prog 95 = none := by kernel_rfl
@[simp] theorem Tryd.tarr95 : tarr Tryd.prog 95 = none := by kernel_rfl
@[simp] theorem Tryd.tint95 : tint Tryd.prog 95 = none := by kernel_rfl
@[simp] theorem Tryd.tbool95 : tbool Tryd.prog 95 = false := by kernel_rfl
@[simp] theorem Tryd.tbytes95 : tbytes Tryd.prog 95 = some 8 := by kernel_rfl
@[simp] theorem Tryd.tzero95 : tzero Tryd.prog 95 = some [.nilFunc] := by kernel_rfl
@[simp] theorem Tryd.tsz103 : tsz Tryd.prog 103 = some 3 := by kernel_rfl
@[simp] theorem Tryd.tag103 : tag Tryd.prog 103 = some true := by kernel_rfl
@[simp] theorem Tryd.telem103 : telem Tryd.prog 103 = none := by kernel_rfl
@[simp] theorem Tryd.tarr103 : tarr Tryd.prog 103 = none := by kernel_rfl
@[simp] theorem Tryd.tint103 : tint Tryd.prog 103 = none := by kernel_rfl
@[simp] theorem Tryd.tbool103 : tbool Tryd.prog 103 = false := by kernel_rfl
@[simp] theorem Tryd.tbytes103 : tbytes Tryd.prog 103 = some 24 := by kernel_rfl
@[simp] theorem Tryd.tzero103 : tzero Tryd.prog 103 = some [.int .i64 0, .int .i64 0, .bool false] := by kernel_rfl
@[simp] theorem Tryd.toff103_0 : toff Tryd.prog 103 0 = some 0 := by kernel_rfl
@[simp] theorem Tryd.tfield103_0 : tfield Tryd.prog 103 0 = some (0, 1, false) := by kernel_rfl
@[simp] theorem Tryd.toff103_1 : toff Tryd.prog 103 1 = some 1 := by kernel_rfl
@[simp] theorem Tryd.tfield103_1 : tfield Tryd.prog 103 1 = some (1, 1, false) := by kernel_rfl
@[simp] theorem Tryd.toff103_2 : toff Tryd.prog 103 2 = some 2 := by kernel_rfl
@[simp] theorem Tryd.tfield103_2 : tfield Tryd.prog 103 2 = some (2, 1, false) := by kernel_rfl
@[simp] theorem Tryd.eqShape103 : eqShape Tryd.prog 103 = some [.int .i64, .int .i64, .bool] := by kernel_rfl
@[simp] theorem Tryd.places103 : placesOf Tryd.prog 103 = some [(0, 1), (1, 1), (2, 1)] := by kernel_rfl
@[simp] theorem Tryd.tsz104 : tsz Tryd.prog 104 = some 1 := by kernel_rfl
@[simp] theorem Tryd.tag104 : tag Tryd.prog 104 = some false := by kernel_rfl
@[simp] theorem Tryd.telem104 : telem Tryd.prog 104 = none := by kernel_rfl
@[simp] theorem Tryd.tarr104 : tarr Tryd.prog 104 = none := by kernel_rfl
@[simp] theorem Tryd.tint104 : tint Tryd.prog 104 = none := by kernel_rfl
@[simp] theorem Tryd.tbool104 : tbool Tryd.prog 104 = false := by kernel_rfl
@[simp] theorem Tryd.tbytes104 : tbytes Tryd.prog 104 = some 8 := by kernel_rfl
@[simp] theorem Tryd.tzero104 : tzero Tryd.prog 104 = some [.pointer none] := by kernel_rfl
@[simp] theorem Tryd.tsz107 : tsz Tryd.prog 107 = some 1 := by kernel_rfl
@[simp] theorem Tryd.tag107 : tag Tryd.prog 107 = some false := by kernel_rfl
@[simp] theorem Tryd.telem107 : telem Tryd.prog 107 = none := by kernel_rfl
@[simp] theorem Tryd.tarr107 : tarr Tryd.prog 107 = none := by kernel_rfl
@[simp] theorem Tryd.tint107 : tint Tryd.prog 107 = none := by kernel_rfl
@[simp] theorem Tryd.tbool107 : tbool Tryd.prog 107 = false := by kernel_rfl
@[simp] theorem Tryd.tbytes107 : tbytes Tryd.prog 107 = some 8 := by kernel_rfl
@[simp] theorem Tryd.tzero107 : tzero Tryd.prog 107 = some [.nilFunc] := by kernel_rfl
@[simp] theorem Tryd.tsz110 : tsz Tryd.prog 110 = some 10 := by kernel_rfl
@[simp] theorem Tryd.tag110 : tag Tryd.prog 110 = some true := by kernel_rfl
@[simp] theorem Tryd.telem110 : telem Tryd.prog 110 = none := by kernel_rfl
@[simp] theorem Tryd.tarr110 : tarr Tryd.prog 110 = none := by kernel_rfl
@[simp] theorem Tryd.tint110 : tint Tryd.prog 110 = none := by kernel_rfl
@[simp] theorem Tryd.tbool110 : tbool Tryd.prog 110 = false := by kernel_rfl
@[simp] theorem Tryd.tbytes110 : tbytes Tryd.prog 110 = some 72 := by kernel_rfl
@[simp] theorem Tryd.tzero110 : tzero Tryd.prog 110 = some [.int .i64 0, .int .i64 0, .int .u8 0, .int .i64 0, .int .i64 0, .int .i64 0, .int .i64 0, .int .i64 0, .bool false, .int .u8 0] := by kernel_rfl
@[simp] theorem Tryd.toff110_0 : toff Tryd.prog 110 0 = some 0 := by kernel_rfl
@[simp] theorem Tryd.tfield110_0 : tfield Tryd.prog 110 0 = some (0, 1, false) := by kernel_rfl
@[simp] theorem Tryd.toff110_1 : toff Tryd.prog 110 1 = some 1 := by kernel_rfl
@[simp] theorem Tryd.tfield110_1 : tfield Tryd.prog 110 1 = some (1, 1, false) := by kernel_rfl
@[simp] theorem Tryd.toff110_2 : toff Tryd.prog 110 2 = some 2 := by kernel_rfl
@[simp] theorem Tryd.tfield110_2 : tfield Tryd.prog 110 2 = some (2, 1, false) := by kernel_rfl
@[simp] theorem Tryd.toff110_3 : toff Tryd.prog 110 3 = some 3 := by kernel_rfl
@[simp] theorem Tryd.tfield110_3 : tfield Tryd.prog 110 3 = some (3, 1, false) := by kernel_rfl
@[simp] theorem Tryd.toff110_4 : toff Tryd.prog 110 4 = some 4 := by kernel_rfl
@[simp] theorem Tryd.tfield110_4 : tfield Tryd.prog 110 4 = some (4, 1, false) := by kernel_rfl
@[simp] theorem Tryd.toff110_5 : toff Tryd.prog 110 5 = some 5 := by kernel_rfl
@[simp] theorem Tryd.tfield110_5 : tfield Tryd.prog 110 5 = some (5, 1, false) := by kernel_rfl
@[simp] theorem Tryd.toff110_6 : toff Tryd.prog 110 6 = some 6 := by kernel_rfl
@[simp] theorem Tryd.tfield110_6 : tfield Tryd.prog 110 6 = some (6, 1, false) := by kernel_rfl
@[simp] theorem Tryd.toff110_7 : toff Tryd.prog 110 7 = some 7 := by kernel_rfl
@[simp] theorem Tryd.tfield110_7 : tfield Tryd.prog 110 7 = some (7, 1, false) := by kernel_rfl
@[simp] theorem Tryd.toff110_8 : toff Tryd.prog 110 8 = some 8 := by kernel_rfl
@[simp] theorem Tryd.tfield110_8 : tfield Tryd.prog 110 8 = some (8, 1, false) := by kernel_rfl
@[simp] theorem Tryd.toff110_9 : toff Tryd.prog 110 9 = some 9 := by kernel_rfl
@[simp] theorem Tryd.tfield110_9 : tfield Tryd.prog 110 9 = some (9, 1, false) := by kernel_rfl
@[simp] theorem Tryd.eqShape110 : eqShape Tryd.prog 110 = some [.int .i64, .int .i64, .int .u8, .int .i64, .int .i64, .int .i64, .int .i64, .int .i64, .bool, .int .u8] := by kernel_rfl
@[simp] theorem Tryd.places110 : placesOf Tryd.prog 110 = some [(0, 1), (1, 1), (2, 1), (3, 1), (4, 1), (5, 1), (6, 1), (7, 1), (8, 1), (9, 1)] := by kernel_rfl
@[simp] theorem Tryd.tsz112 : tsz Tryd.prog 112 = some 1 := by kernel_rfl
@[simp] theorem Tryd.tag112 : tag Tryd.prog 112 = some false := by kernel_rfl
@[simp] theorem Tryd.telem112 : telem Tryd.prog 112 = some 4 := by kernel_rfl
@[simp] theorem Tryd.tarr112 : tarr Tryd.prog 112 = none := by kernel_rfl
@[simp] theorem Tryd.tint112 : tint Tryd.prog 112 = none := by kernel_rfl
@[simp] theorem Tryd.tbool112 : tbool Tryd.prog 112 = false := by kernel_rfl
@[simp] theorem Tryd.tbytes112 : tbytes Tryd.prog 112 = some 24 := by kernel_rfl
@[simp] theorem Tryd.tzero112 : tzero Tryd.prog 112 = some [.slice none 0 0] := by kernel_rfl
@[simp] theorem Tryd.tsz118 : tsz Tryd.prog 118 = some 1 := by kernel_rfl
@[simp] theorem Tryd.tag118 : tag Tryd.prog 118 = some false := by kernel_rfl
@[simp] theorem Tryd.telem118 : telem Tryd.prog 118 = none := by kernel_rfl
@[simp] theorem Tryd.tarr118 : tarr Tryd.prog 118 = none := by kernel_rfl
@[simp] theorem Tryd.tint118 : tint Tryd.prog 118 = none := by kernel_rfl
@[simp] theorem Tryd.tbool118 : tbool Tryd.prog 118 = false := by kernel_rfl
@[simp] theorem Tryd.tbytes118 : tbytes Tryd.prog 118 = some 8 := by kernel_rfl
@[simp] theorem Tryd.tzero118 : tzero Tryd.prog 118 = some [.nilFunc] := by kernel_rfl
@[simp] theorem Tryd.tsz123 : tsz Tryd.prog 123 = some 3 := by kernel_rfl
@[simp] theorem Tryd.tag123 : tag Tryd.prog 123 = some true := by kernel_rfl
@[simp] theorem Tryd.telem123 : telem Tryd.prog 123 = none := by kernel_rfl
@[simp] theorem Tryd.tarr123 : tarr Tryd.prog 123 = none := by kernel_rfl
@[simp] theorem Tryd.tint123 : tint Tryd.prog 123 = none := by kernel_rfl
@[simp] theorem Tryd.tbool123 : tbool Tryd.prog 123 = false := by kernel_rfl
@[simp] theorem Tryd.tbytes123 : tbytes Tryd.prog 123 = some 24 := by kernel_rfl
@[simp] theorem Tryd.tzero123 : tzero Tryd.prog 123 = some [.int .i64 0, .int .i64 0, .int .i64 0] := by kernel_rfl
@[simp] theorem Tryd.toff123_0 : toff Tryd.prog 123 0 = some 0 := by kernel_rfl
@[simp] theorem Tryd.tfield123_0 : tfield Tryd.prog 123 0 = some (0, 1, false) := by kernel_rfl
@[simp] theorem Tryd.toff123_1 : toff Tryd.prog 123 1 = some 1 := by kernel_rfl
@[simp] theorem Tryd.tfield123_1 : tfield Tryd.prog 123 1 = some (1, 1, false) := by kernel_rfl
@[simp] theorem Tryd.toff123_2 : toff Tryd.prog 123 2 = some 2 := by kernel_rfl
@[simp] theorem Tryd.tfield123_2 : tfield Tryd.prog 123 2 = some (2, 1, false) := by kernel_rfl
@[simp] theorem Tryd.eqShape123 : eqShape Tryd.prog 123 = some [.int .i64, .int .i64, .int .i64] := by kernel_rfl
@[simp] theorem Tryd.places123 : placesOf Tryd.prog 123 = some [(0, 1), (1, 1), (2, 1)] := by kernel_rfl
@[simp] theorem Tryd.tsz125 : tsz Tryd.prog 125 = some 1 := by kernel_rfl
@[simp] theorem Tryd.tag125 : tag Tryd.prog 125 = some false := by kernel_rfl
@[simp] theorem Tryd.telem125 : telem Tryd.prog 125 = none := by kernel_rfl
@[simp] theorem Tryd.tarr125 : tarr Tryd.prog 125 = none := by kernel_rfl
@[simp] theorem Tryd.tint125 : tint Tryd.prog 125 = none := by kernel_rfl
@[simp] theorem Tryd.tbool125 : tbool Tryd.prog 125 = false := by kernel_rfl
@[simp] theorem Tryd.tbytes125 : tbytes Tryd.prog 125 = some 8 := by kernel_rfl
@[simp] theorem Tryd.tzero125 : tzero Tryd.prog 125 = some [.nilFunc] := by kernel_rfl
@[simp] theorem Tryd.tsz129 : tsz Tryd.prog 129 = some 1 := by kernel_rfl
@[simp] theorem Tryd.tag129 : tag Tryd.prog 129 = some false := by kernel_rfl
@[simp] theorem Tryd.telem129 : telem Tryd.prog 129 = none := by kernel_rfl
@[simp] theorem Tryd.tarr129 : tarr Tryd.prog 129 = none := by kernel_rfl
@[simp] theorem Tryd.tint129 : tint Tryd.prog 129 = none := by kernel_rfl
@[simp] theorem Tryd.tbool129 : tbool Tryd.prog 129 = false := by kernel_rfl
@[simp] theorem Tryd.tbytes129 : tbytes Tryd.prog 129 = some 8 := by kernel_rfl
@[simp] theorem Tryd.tzero129 : tzero Tryd.prog 129 = some [.nilFunc] := by kernel_rfl
@[simp] theorem Tryd.tsz132 : tsz Tryd.prog 132 = some 2 := by kernel_rfl
@[simp] theorem Tryd.tag132 : tag Tryd.prog 132 = some true := by kernel_rfl
@[simp] theorem Tryd.telem132 : telem Tryd.prog 132 = none := by kernel_rfl
@[simp] theorem Tryd.tarr132 : tarr Tryd.prog 132 = some (2, 3) := by kernel_rfl
@[simp] theorem Tryd.tint132 : tint Tryd.prog 132 = none := by kernel_rfl
@[simp] theorem Tryd.tbool132 : tbool Tryd.prog 132 = false := by kernel_rfl
@[simp] theorem Tryd.tbytes132 : tbytes Tryd.prog 132 = some 16 := by kernel_rfl
@[simp] theorem Tryd.tzero132 : tzero Tryd.prog 132 = some [.int .i64 0, .int .i64 0] := by kernel_rfl
@[simp] theorem Tryd.places132 : placesOf Tryd.prog 132 = some [(0, 1), (1, 1)] := by kernel_rfl
@[simp] theorem Tryd.tarrB132 : eqArrOk.tarr' Tryd.prog 132 = some (2, 3) := by kernel_rfl
@[simp] theorem Tryd.eqShape132 : eqShape Tryd.prog 132 = none := by kernel_rfl
@[simp] theorem Tryd.eqArr132 : eqArrOk Tryd.prog 132 = some [.int .i64, .int .i64] := by kernel_rfl
@[simp] theorem Tryd.tsz133 : tsz Tryd.prog 133 = some 1 := by kernel_rfl
@[simp] theorem Tryd.tag133 : tag Tryd.prog 133 = some false := by kernel_rfl
@[simp] theorem Tryd.telem133 : telem Tryd.prog 133 = some 160 := by kernel_rfl
@[simp] theorem Tryd.tarr133 : tarr Tryd.prog 133 = none := by kernel_rfl
@[simp] theorem Tryd.tint133 : tint Tryd.prog 133 = none := by kernel_rfl
@[simp] theorem Tryd.tbool133 : tbool Tryd.prog 133 = false := by kernel_rfl
@[simp] theorem Tryd.tbytes133 : tbytes Tryd.prog 133 = some 24 := by kernel_rfl
@[simp] theorem Tryd.tzero133 : tzero Tryd.prog 133 = some [.slice none 0 0] := by kernel_rfl
@[simp] theorem Tryd.tsz135 : tsz Tryd.prog 135 = some 5 := by kernel_rfl
@[simp] theorem Tryd.tag135 : tag Tryd.prog 135 = some true := by kernel_rfl
@[simp] theorem Tryd.telem135 : telem Tryd.prog 135 = none := by kernel_rfl
@[simp] theorem Tryd.tarr135 : tarr Tryd.prog 135 = none := by kernel_rfl
@[simp] theorem Tryd.tint135 : tint Tryd.prog 135 = none := by kernel_rfl
@[simp] theorem Tryd.tbool135 : tbool Tryd.prog 135 = false := by kernel_rfl
@[simp] theorem Tryd.tbytes135 : tbytes Tryd.prog 135 = some 72 := by kernel_rfl
@[simp] theorem Tryd.tzero135 : tzero Tryd.prog 135 = some [.int .i64 0, .int .i64 0, .int .u8 0, .slice none 0 0, .slice none 0 0] := by kernel_rfl
@[simp] theorem Tryd.toff135_0 : toff Tryd.prog 135 0 = some 0 := by kernel_rfl
@[simp] theorem Tryd.tfield135_0 : tfield Tryd.prog 135 0 = some (0, 1, false) := by kernel_rfl
@[simp] theorem Tryd.toff135_1 : toff Tryd.prog 135 1 = some 1 := by kernel_rfl
@[simp] theorem Tryd.tfield135_1 : tfield Tryd.prog 135 1 = some (1, 1, false) := by kernel_rfl
@[simp] theorem Tryd.toff135_2 : toff Tryd.prog 135 2 = some 2 := by kernel_rfl
@[simp] theorem Tryd.tfield135_2 : tfield Tryd.prog 135 2 = some (2, 1, false) := by kernel_rfl
@[simp] theorem Tryd.toff135_3 : toff Tryd.prog 135 3 = some 3 := by kernel_rfl
@[simp] theorem Tryd.tfield135_3 : tfield Tryd.prog 135 3 = some (3, 1, false) := by kernel_rfl
@[simp] theorem Tryd.toff135_4 : toff Tryd.prog 135 4 = some 4 := by kernel_rfl
@[simp] theorem Tryd.tfield135_4 : tfield Tryd.prog 135 4 = some (4, 1, false) := by kernel_rfl
@[simp] theorem Tryd.places135 : placesOf Tryd.prog 135 = some [(0, 1), (1, 1), (2, 1), (3, 1), (4, 1)] := by kernel_rfl
@[simp] theorem Tryd.tsz138 : tsz Tryd.prog 138 = some 1 := by kernel_rfl
@[simp] theorem Tryd.tag138 : tag Tryd.prog 138 = some false := by kernel_rfl
@[simp] theorem Tryd.telem138 : telem Tryd.prog 138 = none := by kernel_rfl
@[simp] theorem Tryd.tarr138 : tarr Tryd.prog 138 = none := by kernel_rfl
@[simp] theorem Tryd.tint138 : tint Tryd.prog 138 = none := by kernel_rfl
@[simp] theorem Tryd.tbool138 : tbool Tryd.prog 138 = false := by kernel_rfl
@[simp] theorem Tryd.tbytes138 : tbytes Tryd.prog 138 = some 8 := by kernel_rfl
@[simp] theorem Tryd.tzero138 : tzero Tryd.prog 138 = some [.map none] := by kernel_rfl
@[simp] theorem Tryd.tmap138 : tmap Tryd.prog 138 = some (3, 3) := by kernel_rfl
@[simp] theorem Tryd.tsz139 : tsz Tryd.prog 139 = some 1 := by kernel_rfl
@[simp] theorem Tryd.tag139 : tag Tryd.prog 139 = some false := by kernel_rfl
@[simp] theorem Tryd.telem139 : telem Tryd.prog 139 = none := by kernel_rfl
@[simp] theorem Tryd.tarr139 : tarr Tryd.prog 139 = none := by kernel_rfl
@[simp] theorem Tryd.tint139 : tint Tryd.prog 139 = none := by kernel_rfl
@[simp] theorem Tryd.tbool139 : tbool Tryd.prog 139 = false := by kernel_rfl
@[simp] theorem Tryd.tbytes139 : tbytes Tryd.prog 139 = some 8 := by kernel_rfl
@[simp] theorem Tryd.tzero139 : tzero Tryd.prog 139 = some [.map none] := by kernel_rfl
@[simp] theorem Tryd.tmap139 : tmap Tryd.prog 139 = some (3, 135) := by kernel_rfl
@[simp] theorem Tryd.tsz141 : tsz Tryd.prog 141 = some 6 := by kernel_rfl
@[simp] theorem Tryd.tag141 : tag Tryd.prog 141 = some true := by kernel_rfl
@[simp] theorem Tryd.telem141 : telem Tryd.prog 141 = none := by kernel_rfl
@[simp] theorem Tryd.tarr141 : tarr Tryd.prog 141 = none := by kernel_rfl
@[simp] theorem Tryd.tint141 : tint Tryd.prog 141 = none := by kernel_rfl
@[simp] theorem Tryd.tbool141 : tbool Tryd.prog 141 = false := by kernel_rfl
@[simp] theorem Tryd.tbytes141 : tbytes Tryd.prog 141 = some 96 := by kernel_rfl
@[simp] theorem Tryd.tzero141 : tzero Tryd.prog 141 = some [.slice none 0 0, .slice none 0 0, .int .i64 0, .slice none 0 0, .map none, .map none] := by kernel_rfl
@[simp] theorem Tryd.toff141_0 : toff Tryd.prog 141 0 = some 0 := by kernel_rfl
@[simp] theorem Tryd.tfield141_0 : tfield Tryd.prog 141 0 = some (0, 4, true) := by kernel_rfl
@[simp] theorem Tryd.toff141_1 : toff Tryd.prog 141 1 = some 4 := by kernel_rfl
@[simp] theorem Tryd.tfield141_1 : tfield Tryd.prog 141 1 = some (4, 1, false) := by kernel_rfl
@[simp] theorem Tryd.toff141_2 : toff Tryd.prog 141 2 = some 5 := by kernel_rfl
@[simp] theorem Tryd.tfield141_2 : tfield Tryd.prog 141 2 = some (5, 1, false) := by kernel_rfl
@[simp] theorem Tryd.places141 : placesOf Tryd.prog 141 = some [(0, 4), (4, 1), (5, 1)] := by kernel_rfl
@[simp] theorem Tryd.tsz143 : tsz Tryd.prog 143 = some 3 := by kernel_rfl
@[simp] theorem Tryd.tag143 : tag Tryd.prog 143 = some true := by kernel_rfl
@[simp] theorem Tryd.telem143 : telem Tryd.prog 143 = none := by kernel_rfl
@[simp] theorem Tryd.tarr143 : tarr Tryd.prog 143 = none := by kernel_rfl
@[simp] theorem Tryd.tint143 : tint Tryd.prog 143 = none := by kernel_rfl
@[simp] theorem Tryd.tbool143 : tbool Tryd.prog 143 = false := by kernel_rfl
@[simp] theorem Tryd.tbytes143 : tbytes Tryd.prog 143 = some 24 := by kernel_rfl
@[simp] theorem Tryd.tzero143 : tzero Tryd.prog 143 = some [.int .i64 0, .int .i64 0, .int .i64 0] := by kernel_rfl
@[simp] theorem Tryd.toff143_0 : toff Tryd.prog 143 0 = some 0 := by kernel_rfl
@[simp] theorem Tryd.tfield143_0 : tfield Tryd.prog 143 0 = some (0, 1, false) := by kernel_rfl
@[simp] theorem Tryd.toff143_1 : toff Tryd.prog 143 1 = some 1 := by kernel_rfl
@[simp] theorem Tryd.tfield143_1 : tfield Tryd.prog 143 1 = some (1, 1, false) := by kernel_rfl
@[simp] theorem Tryd.toff143_2 : toff Tryd.prog 143 2 = some 2 := by kernel_rfl
@[simp] theorem Tryd.tfield143_2 : tfield Tryd.prog 143 2 = some (2, 1, false) := by kernel_rfl
@[simp] theorem Tryd.eqShape143 : eqShape Tryd.prog 143 = some [.int .i64, .int .i64, .int .i64] := by kernel_rfl
@[simp] theorem Tryd.places143 : placesOf Tryd.prog 143 = some [(0, 1), (1, 1), (2, 1)] := by kernel_rfl
@[simp] theorem Tryd.tsz145 : tsz Tryd.prog 145 = some 2 := by kernel_rfl
@[simp] theorem Tryd.tag145 : tag Tryd.prog 145 = some true := by kernel_rfl
@[simp] theorem Tryd.telem145 : telem Tryd.prog 145 = none := by kernel_rfl
@[simp] theorem Tryd.tarr145 : tarr Tryd.prog 145 = none := by kernel_rfl
@[simp] theorem Tryd.tint145 : tint Tryd.prog 145 = none := by kernel_rfl
@[simp] theorem Tryd.tbool145 : tbool Tryd.prog 145 = false := by kernel_rfl
@[simp] theorem Tryd.tbytes145 : tbytes Tryd.prog 145 = some 16 := by kernel_rfl
@[simp] theorem Tryd.tzero145 : tzero Tryd.prog 145 = some [.int .i64 0, .int .i64 0] := by kernel_rfl
@[simp] theorem Tryd.toff145_0 : toff Tryd.prog 145 0 = some 0 := by kernel_rfl
@[simp] theorem Tryd.tfield145_0 : tfield Tryd.prog 145 0 = some (0, 1, false) := by kernel_rfl
@[simp] theorem Tryd.toff145_1 : toff Tryd.prog 145 1 = some 1 := by kernel_rfl
@[simp] theorem Tryd.tfield145_1 : tfield Tryd.prog 145 1 = some (1, 1, false) := by kernel_rfl
@[simp] theorem Tryd.eqShape145 : eqShape Tryd.prog 145 = some [.int .i64, .int .i64] := by kernel_rfl
@[simp] theorem Tryd.places145 : placesOf Tryd.prog 145 = some [(0, 1), (1, 1)] := by kernel_rfl
@[simp] theorem Tryd.tsz149 : tsz Tryd.prog 149 = some 1 := by kernel_rfl
@[simp] theorem Tryd.tag149 : tag Tryd.prog 149 = some false := by kernel_rfl
@[simp] theorem Tryd.telem149 : telem Tryd.prog 149 = some 145 := by kernel_rfl
@[simp] theorem Tryd.tarr149 : tarr Tryd.prog 149 = none := by kernel_rfl
@[simp] theorem Tryd.tint149 : tint Tryd.prog 149 = none := by kernel_rfl
@[simp] theorem Tryd.tbool149 : tbool Tryd.prog 149 = false := by kernel_rfl
@[simp] theorem Tryd.tbytes149 : tbytes Tryd.prog 149 = some 24 := by kernel_rfl
@[simp] theorem Tryd.tzero149 : tzero Tryd.prog 149 = some [.slice none 0 0] := by kernel_rfl
@[simp] theorem Tryd.tsz160 : tsz Tryd.prog 160 = some 2 := by kernel_rfl
@[simp] theorem Tryd.tag160 : tag Tryd.prog 160 = some true := by kernel_rfl
@[simp] theorem Tryd.telem160 : telem Tryd.prog 160 = none := by kernel_rfl
@[simp] theorem Tryd.tarr160 : tarr Tryd.prog 160 = none := by kernel_rfl
@[simp] theorem Tryd.tint160 : tint Tryd.prog 160 = none := by kernel_rfl
@[simp] theorem Tryd.tbool160 : tbool Tryd.prog 160 = false := by kernel_rfl
@[simp] theorem Tryd.tbytes160 : tbytes Tryd.prog 160 = some 16 := by kernel_rfl
@[simp] theorem Tryd.tzero160 : tzero Tryd.prog 160 = some [.int .i64 0, .int .i64 0] := by kernel_rfl
@[simp] theorem Tryd.toff160_0 : toff Tryd.prog 160 0 = some 0 := by kernel_rfl
@[simp] theorem Tryd.tfield160_0 : tfield Tryd.prog 160 0 = some (0, 1, false) := by kernel_rfl
@[simp] theorem Tryd.toff160_1 : toff Tryd.prog 160 1 = some 1 := by kernel_rfl
@[simp] theorem Tryd.tfield160_1 : tfield Tryd.prog 160 1 = some (1, 1, false) := by kernel_rfl
@[simp] theorem Tryd.eqShape160 : eqShape Tryd.prog 160 = some [.int .i64, .int .i64] := by kernel_rfl
@[simp] theorem Tryd.places160 : placesOf Tryd.prog 160 = some [(0, 1), (1, 1)] := by kernel_rfl
@[simp] theorem Tryd.tsz161 : tsz Tryd.prog 161 = some 1 := by kernel_rfl
@[simp] theorem Tryd.tag161 : tag Tryd.prog 161 = some false := by kernel_rfl
@[simp] theorem Tryd.telem161 : telem Tryd.prog 161 = none := by kernel_rfl
@[simp] theorem Tryd.tarr161 : tarr Tryd.prog 161 = none := by kernel_rfl
@[simp] theorem Tryd.tint161 : tint Tryd.prog 161 = none := by kernel_rfl
@[simp] theorem Tryd.tbool161 : tbool Tryd.prog 161 = false := by kernel_rfl
@[simp] theorem Tryd.tbytes161 : tbytes Tryd.prog 161 = some 8 := by kernel_rfl
@[simp] theorem Tryd.tzero161 : tzero Tryd.prog 161 = some [.nilFunc] := by kernel_rfl
@[simp] theorem Tryd.tsz162 : tsz Tryd.prog 162 = some 1 := by kernel_rfl
@[simp] theorem Tryd.tag162 : tag Tryd.prog 162 = some true := by kernel_rfl
@[simp] theorem Tryd.telem162 : telem Tryd.prog 162 = none := by kernel_rfl
@[simp] theorem Tryd.tarr162 : tarr Tryd.prog 162 = none := by kernel_rfl
@[simp] theorem Tryd.tint162 : tint Tryd.prog 162 = none := by kernel_rfl
@[simp] theorem Tryd.tbool162 : tbool Tryd.prog 162 = false := by kernel_rfl
@[simp] theorem Tryd.tbytes162 : tbytes Tryd.prog 162 = some 8 := by kernel_rfl
@[simp] theorem Tryd.tzero162 : tzero Tryd.prog 162 = some [.nilFunc] := by kernel_rfl
@[simp] theorem Tryd.toff162_0 : toff Tryd.prog 162 0 = some 0 := by kernel_rfl
@[simp] theorem Tryd.tfield162_0 : tfield Tryd.prog 162 0 = some (0, 1, false) := by kernel_rfl
@[simp] theorem Tryd.places162 : placesOf Tryd.prog 162 = some [(0, 1)] := by kernel_rfl
@[simp] theorem Tryd.tsz163 : tsz Tryd.prog 163 = some 3 := by kernel_rfl
@[simp] theorem Tryd.tag163 : tag Tryd.prog 163 = some true := by kernel_rfl
@[simp] theorem Tryd.telem163 : telem Tryd.prog 163 = none := by kernel_rfl
@[simp] theorem Tryd.tarr163 : tarr Tryd.prog 163 = some (3, 162) := by kernel_rfl
@[simp] theorem Tryd.tint163 : tint Tryd.prog 163 = none := by kernel_rfl
@[simp] theorem Tryd.tbool163 : tbool Tryd.prog 163 = false := by kernel_rfl
@[simp] theorem Tryd.tbytes163 : tbytes Tryd.prog 163 = some 24 := by kernel_rfl
@[simp] theorem Tryd.tzero163 : tzero Tryd.prog 163 = some [.nilFunc, .nilFunc, .nilFunc] := by kernel_rfl
@[simp] theorem Tryd.places163 : placesOf Tryd.prog 163 = some [(0, 1), (1, 1), (2, 1)] := by kernel_rfl
@[simp] theorem Tryd.tarrB163 : eqArrOk.tarr' Tryd.prog 163 = some (3, 162) := by kernel_rfl
@[simp] theorem Tryd.eqShape163 : eqShape Tryd.prog 163 = none := by kernel_rfl
@[simp] theorem Tryd.tsz172 : tsz Tryd.prog 172 = some 1 := by kernel_rfl
@[simp] theorem Tryd.tag172 : tag Tryd.prog 172 = some false := by kernel_rfl
@[simp] theorem Tryd.telem172 : telem Tryd.prog 172 = none := by kernel_rfl
@[simp] theorem Tryd.tarr172 : tarr Tryd.prog 172 = none := by kernel_rfl
@[simp] theorem Tryd.tint172 : tint Tryd.prog 172 = none := by kernel_rfl
@[simp] theorem Tryd.tbool172 : tbool Tryd.prog 172 = false := by kernel_rfl
@[simp] theorem Tryd.tbytes172 : tbytes Tryd.prog 172 = some 8 := by kernel_rfl
@[simp] theorem Tryd.tzero172 : tzero Tryd.prog 172 = some [.map none] := by kernel_rfl
@[simp] theorem Tryd.tmap172 : tmap Tryd.prog 172 = some (3, 4) := by kernel_rfl
@[simp] theorem Tryd.tsz175 : tsz Tryd.prog 175 = some 4 := by kernel_rfl
@[simp] theorem Tryd.tag175 : tag Tryd.prog 175 = some true := by kernel_rfl
@[simp] theorem Tryd.telem175 : telem Tryd.prog 175 = none := by kernel_rfl
@[simp] theorem Tryd.tarr175 : tarr Tryd.prog 175 = none := by kernel_rfl
@[simp] theorem Tryd.tint175 : tint Tryd.prog 175 = none := by kernel_rfl
@[simp] theorem Tryd.tbool175 : tbool Tryd.prog 175 = false := by kernel_rfl
@[simp] theorem Tryd.tbytes175 : tbytes Tryd.prog 175 = some 96 := by kernel_rfl
@[simp] theorem Tryd.tzero175 : tzero Tryd.prog 175 = some [.slice none 0 0, .slice none 0 0, .slice none 0 0, .slice none 0 0] := by kernel_rfl
@[simp] theorem Tryd.toff175_0 : toff Tryd.prog 175 0 = some 0 := by kernel_rfl
@[simp] theorem Tryd.tfield175_0 : tfield Tryd.prog 175 0 = some (0, 2, true) := by kernel_rfl
@[simp] theorem Tryd.toff175_1 : toff Tryd.prog 175 1 = some 2 := by kernel_rfl
@[simp] theorem Tryd.tfield175_1 : tfield Tryd.prog 175 1 = some (2, 1, false) := by kernel_rfl
@[simp] theorem Tryd.toff175_2 : toff Tryd.prog 175 2 = some 3 := by kernel_rfl
@[simp] theorem Tryd.tfield175_2 : tfield Tryd.prog 175 2 = some (3, 1, false) := by kernel_rfl
@[simp] theorem Tryd.places175 : placesOf Tryd.prog 175 = some [(0, 2), (2, 1), (3, 1)] := by kernel_rfl
@[simp] theorem Tryd.tsz178 : tsz Tryd.prog 178 = some 1 := by kernel_rfl
@[simp] theorem Tryd.tag178 : tag Tryd.prog 178 = some true := by kernel_rfl
@[simp] theorem Tryd.telem178 : telem Tryd.prog 178 = none := by kernel_rfl
@[simp] theorem Tryd.tarr178 : tarr Tryd.prog 178 = none := by kernel_rfl
@[simp] theorem Tryd.tint178 : tint Tryd.prog 178 = none := by kernel_rfl
@[simp] theorem Tryd.tbool178 : tbool Tryd.prog 178 = false := by kernel_rfl
@[simp] theorem Tryd.tbytes178 : tbytes Tryd.prog 178 = some 8 := by kernel_rfl
@[simp] theorem Tryd.tzero178 : tzero Tryd.prog 178 = some [.nilFunc] := by kernel_rfl
@[simp] theorem Tryd.toff178_0 : toff Tryd.prog 178 0 = some 0 := by kernel_rfl
@[simp] theorem Tryd.tfield178_0 : tfield Tryd.prog 178 0 = some (0, 1, false) := by kernel_rfl
@[simp] theorem Tryd.places178 : placesOf Tryd.prog 178 = some [(0, 1)] := by kernel_rfl
@[simp] theorem Tryd.tsz179 : tsz Tryd.prog 179 = some 8 := by kernel_rfl
@[simp] theorem Tryd.tag179 : tag Tryd.prog 179 = some true := by kernel_rfl
@[simp] theorem Tryd.telem179 : telem Tryd.prog 179 = none := by kernel_rfl
@[simp] theorem Tryd.tarr179 : tarr Tryd.prog 179 = some (8, 178) := by kernel_rfl
@[simp] theorem Tryd.tint179 : tint Tryd.prog 179 = none := by kernel_rfl
@[simp] theorem Tryd.tbool179 : tbool Tryd.prog 179 = false := by kernel_rfl
@[simp] theorem Tryd.tbytes179 : tbytes Tryd.prog 179 = some 64 := by kernel_rfl
@[simp] theorem Tryd.tzero179 : tzero Tryd.prog 179 = some [.nilFunc, .nilFunc, .nilFunc, .nilFunc, .nilFunc, .nilFunc, .nilFunc, .nilFunc] := by kernel_rfl
@[simp] theorem Tryd.places179 : placesOf Tryd.prog 179 = some [(0, 1), (1, 1), (2, 1), (3, 1), (4, 1), (5, 1), (6, 1), (7, 1)] := by kernel_rfl
@[simp] theorem Tryd.tarrB179 : eqArrOk.tarr' Tryd.prog 179 = some (8, 178) := by kernel_rfl
@[simp] theorem Tryd.eqShape179 : eqShape Tryd.prog 179 = none := by kernel_rfl
@[simp] theorem Tryd.tsz181 : tsz Tryd.prog 181 = some 1 := by kernel_rfl
@[simp] theorem Tryd.tag181 : tag Tryd.prog 181 = some false := by kernel_rfl
@[simp] theorem Tryd.telem181 : telem Tryd.prog 181 = none := by kernel_rfl
@[simp] theorem Tryd.tarr181 : tarr Tryd.prog 181 = none := by kernel_rfl
@[simp] theorem Tryd.tint181 : tint Tryd.prog 181 = none := by kernel_rfl
@[simp] theorem Tryd.tbool181 : tbool Tryd.prog 181 = false := by kernel_rfl
@[simp] theorem Tryd.tbytes181 : tbytes Tryd.prog 181 = some 8 := by kernel_rfl
@[simp] theorem Tryd.tzero181 : tzero Tryd.prog 181 = some [.map none] := by kernel_rfl
@[simp] theorem Tryd.tmap181 : tmap Tryd.prog 181 = some (132, 4) := by kernel_rfl
@[simp] theorem Tryd.tsz182 : tsz Tryd.prog 182 = some 12 := by kernel_rfl
@[simp] theorem Tryd.tag182 : tag Tryd.prog 182 = some true := by kernel_rfl
@[simp] theorem Tryd.telem182 : telem Tryd.prog 182 = none := by kernel_rfl
@[simp] theorem Tryd.tarr182 : tarr Tryd.prog 182 = some (12, 4) := by kernel_rfl
@[simp] theorem Tryd.tint182 : tint Tryd.prog 182 = none := by kernel_rfl
@[simp] theorem Tryd.tbool182 : tbool Tryd.prog 182 = false := by kernel_rfl
@[simp] theorem Tryd.tbytes182 : tbytes Tryd.prog 182 = some 12 := by kernel_rfl
@[simp] theorem Tryd.tzero182 : tzero Tryd.prog 182 = some [.bool false, .bool false, .bool false, .bool false, .bool false, .bool false, .bool false, .bool false, .bool false, .bool false, .bool false, .bool false] := by kernel_rfl
@[simp] theorem Tryd.places182 : placesOf Tryd.prog 182 = some [(0, 1), (1, 1), (2, 1), (3, 1), (4, 1), (5, 1), (6, 1), (7, 1), (8, 1), (9, 1), (10, 1), (11, 1)] := by kernel_rfl
@[simp] theorem Tryd.tarrB182 : eqArrOk.tarr' Tryd.prog 182 = some (12, 4) := by kernel_rfl
@[simp] theorem Tryd.eqShape182 : eqShape Tryd.prog 182 = none := by kernel_rfl
@[simp] theorem Tryd.tsz183 : tsz Tryd.prog 183 = some 144 := by kernel_rfl
@[simp] theorem Tryd.tag183 : tag Tryd.prog 183 = some true := by kernel_rfl
@[simp] theorem Tryd.telem183 : telem Tryd.prog 183 = none := by kernel_rfl
@[simp] theorem Tryd.tarr183 : tarr Tryd.prog 183 = some (12, 182) := by kernel_rfl
@[simp] theorem Tryd.tint183 : tint Tryd.prog 183 = none := by kernel_rfl
@[simp] theorem Tryd.tbool183 : tbool Tryd.prog 183 = false := by kernel_rfl
@[simp] theorem Tryd.tbytes183 : tbytes Tryd.prog 183 = some 144 := by kernel_rfl
@[simp] theorem Tryd.places183 : placesOf Tryd.prog 183 = some [(0, 12), (12, 12), (24, 12), (36, 12), (48, 12), (60, 12), (72, 12), (84, 12), (96, 12), (108, 12), (120, 12), (132, 12)] := by kernel_rfl
@[simp] theorem Tryd.tarrB183 : eqArrOk.tarr' Tryd.prog 183 = some (12, 182) := by kernel_rfl
@[simp] theorem Tryd.eqShape183 : eqShape Tryd.prog 183 = none := by kernel_rfl
@[simp] theorem Tryd.tsz187 : tsz Tryd.prog 187 = some 1 := by kernel_rfl
@[simp] theorem Tryd.tag187 : tag Tryd.prog 187 = some false := by kernel_rfl
@[simp] theorem Tryd.telem187 : telem Tryd.prog 187 = none := by kernel_rfl
@[simp] theorem Tryd.tarr187 : tarr Tryd.prog 187 = none := by kernel_rfl
@[simp] theorem Tryd.tint187 : tint Tryd.prog 187 = some .u64 := by kernel_rfl
@[simp] theorem Tryd.tbool187 : tbool Tryd.prog 187 = false := by kernel_rfl
@[simp] theorem Tryd.tbytes187 : tbytes Tryd.prog 187 = some 8 := by kernel_rfl
@[simp] theorem Tryd.tzero187 : tzero Tryd.prog 187 = some [.int .u64 0] := by kernel_rfl
@[simp] theorem Tryd.tsz192 : tsz Tryd.prog 192 = some 1 := by kernel_rfl
@[simp] theorem Tryd.tag192 : tag Tryd.prog 192 = some false := by kernel_rfl
@[simp] theorem Tryd.telem192 : telem Tryd.prog 192 = none := by kernel_rfl
@[simp] theorem Tryd.tarr192 : tarr Tryd.prog 192 = none := by kernel_rfl
@[simp] theorem Tryd.tint192 : tint Tryd.prog 192 = none := by kernel_rfl
@[simp] theorem Tryd.tbool192 : tbool Tryd.prog 192 = false := by kernel_rfl
@[simp] theorem Tryd.tbytes192 : tbytes Tryd.prog 192 = some 8 := by kernel_rfl
@[simp] theorem Tryd.tzero192 : tzero Tryd.prog 192 = some [.pointer none] := by kernel_rfl
@[simp] theorem Tryd.tsz197 : tsz Tryd.prog 197 = some 1 := by kernel_rfl
@[simp] theorem Tryd.tag197 : tag Tryd.prog 197 = some false := by kernel_rfl
@[simp] theorem Tryd.telem197 : telem Tryd.prog 197 = none := by kernel_rfl
@[simp] theorem Tryd.tarr197 : tarr Tryd.prog 197 = none := by kernel_rfl
@[simp] theorem Tryd.tint197 : tint Tryd.prog 197 = none := by kernel_rfl
@[simp] theorem Tryd.tbool197 : tbool Tryd.prog 197 = false := by kernel_rfl
@[simp] theorem Tryd.tbytes197 : tbytes Tryd.prog 197 = some 8 := by kernel_rfl
@[simp] theorem Tryd.tzero197 : tzero Tryd.prog 197 = some [.nilFunc] := by kernel_rfl
@[simp] theorem Tryd.tsz199 : tsz Tryd.prog 199 = some 2 := by kernel_rfl
@[simp] theorem Tryd.tag199 : tag Tryd.prog 199 = some true := by kernel_rfl
@[simp] theorem Tryd.telem199 : telem Tryd.prog 199 = none := by kernel_rfl
@[simp] theorem Tryd.tarr199 : tarr Tryd.prog 199 = none := by kernel_rfl
@[simp] theorem Tryd.tint199 : tint Tryd.prog 199 = none := by kernel_rfl
@[simp] theorem Tryd.tbool199 : tbool Tryd.prog 199 = false := by kernel_rfl
@[simp] theorem Tryd.tbytes199 : tbytes Tryd.prog 199 = some 48 := by kernel_rfl
@[simp] theorem Tryd.tzero199 : tzero Tryd.prog 199 = some [.slice none 0 0, .slice none 0 0] := by kernel_rfl
@[simp] theorem Tryd.toff199_0 : toff Tryd.prog 199 0 = some 0 := by kernel_rfl
@[simp] theorem Tryd.tfield199_0 : tfield Tryd.prog 199 0 = some (0, 1, true) := by kernel_rfl
@[simp] theorem Tryd.toff199_1 : toff Tryd.prog 199 1 = some 1 := by kernel_rfl
@[simp] theorem Tryd.tfield199_1 : tfield Tryd.prog 199 1 = some (1, 1, false) := by kernel_rfl
@[simp] theorem Tryd.places199 : placesOf Tryd.prog 199 = some [(0, 1), (1, 1)] := by kernel_rfl
@[simp] theorem Tryd.tsz202 : tsz Tryd.prog 202 = some 1 := by kernel_rfl
@[simp] theorem Tryd.tag202 : tag Tryd.prog 202 = some false := by kernel_rfl
@[simp] theorem Tryd.telem202 : telem Tryd.prog 202 = none := by kernel_rfl
@[simp] theorem Tryd.tarr202 : tarr Tryd.prog 202 = none := by kernel_rfl
@[simp] theorem Tryd.tint202 : tint Tryd.prog 202 = none := by kernel_rfl
@[simp] theorem Tryd.tbool202 : tbool Tryd.prog 202 = false := by kernel_rfl
@[simp] theorem Tryd.tbytes202 : tbytes Tryd.prog 202 = some 8 := by kernel_rfl
@[simp] theorem Tryd.tzero202 : tzero Tryd.prog 202 = some [.nilFunc] := by kernel_rfl
@[simp] theorem Tryd.tsz208 : tsz Tryd.prog 208 = some 1 := by kernel_rfl
@[simp] theorem Tryd.tag208 : tag Tryd.prog 208 = some false := by kernel_rfl
@[simp] theorem Tryd.telem208 : telem Tryd.prog 208 = none := by kernel_rfl
@[simp] theorem Tryd.tarr208 : tarr Tryd.prog 208 = none := by kernel_rfl
@[simp] theorem Tryd.tint208 : tint Tryd.prog 208 = some .i64 := by kernel_rfl
@[simp] theorem Tryd.tbool208 : tbool Tryd.prog 208 = false := by kernel_rfl
@[simp] theorem Tryd.tbytes208 : tbytes Tryd.prog 208 = some 8 := by kernel_rfl
@[simp] theorem Tryd.tzero208 : tzero Tryd.prog 208 = some [.int .i64 0] := by kernel_rfl
@[simp] theorem Tryd.tsz217 : tsz Tryd.prog 217 = some 1 := by kernel_rfl
@[simp] theorem Tryd.tag217 : tag Tryd.prog 217 = some false := by kernel_rfl
@[simp] theorem Tryd.telem217 : telem Tryd.prog 217 = none := by kernel_rfl
@[simp] theorem Tryd.tarr217 : tarr Tryd.prog 217 = none := by kernel_rfl
@[simp] theorem Tryd.tint217 : tint Tryd.prog 217 = some .u32 := by kernel_rfl
@[simp] theorem Tryd.tbool217 : tbool Tryd.prog 217 = false := by kernel_rfl
@[simp] theorem Tryd.tbytes217 : tbytes Tryd.prog 217 = some 4 := by kernel_rfl
@[simp] theorem Tryd.tzero217 : tzero Tryd.prog 217 = some [.int .u32 0] := by kernel_rfl
@[simp] theorem Tryd.tsz219 : tsz Tryd.prog 219 = some 1 := by kernel_rfl
@[simp] theorem Tryd.tag219 : tag Tryd.prog 219 = some false := by kernel_rfl
@[simp] theorem Tryd.telem219 : telem Tryd.prog 219 = none := by kernel_rfl
@[simp] theorem Tryd.tarr219 : tarr Tryd.prog 219 = none := by kernel_rfl
@[simp] theorem Tryd.tint219 : tint Tryd.prog 219 = some .u64 := by kernel_rfl
@[simp] theorem Tryd.tbool219 : tbool Tryd.prog 219 = false := by kernel_rfl
@[simp] theorem Tryd.tbytes219 : tbytes Tryd.prog 219 = some 8 := by kernel_rfl
@[simp] theorem Tryd.tzero219 : tzero Tryd.prog 219 = some [.int .u64 0] := by kernel_rfl
@[simp] theorem Tryd.tsz220 : tsz Tryd.prog 220 = some 1 := by kernel_rfl
@[simp] theorem Tryd.tag220 : tag Tryd.prog 220 = some true := by kernel_rfl
@[simp] theorem Tryd.telem220 : telem Tryd.prog 220 = none := by kernel_rfl
@[simp] theorem Tryd.tarr220 : tarr Tryd.prog 220 = none := by kernel_rfl
@[simp] theorem Tryd.tint220 : tint Tryd.prog 220 = none := by kernel_rfl
@[simp] theorem Tryd.tbool220 : tbool Tryd.prog 220 = false := by kernel_rfl
@[simp] theorem Tryd.tbytes220 : tbytes Tryd.prog 220 = some 8 := by kernel_rfl
@[simp] theorem Tryd.tzero220 : tzero Tryd.prog 220 = some [.nilFunc] := by kernel_rfl
@[simp] theorem Tryd.toff220_0 : toff Tryd.prog 220 0 = some 0 := by kernel_rfl
@[simp] theorem Tryd.tfield220_0 : tfield Tryd.prog 220 0 = some (0, 1, false) := by kernel_rfl
@[simp] theorem Tryd.places220 : placesOf Tryd.prog 220 = some [(0, 1)] := by kernel_rfl
@[simp] theorem Tryd.tsz221 : tsz Tryd.prog 221 = some 4 := by kernel_rfl
@[simp] theorem Tryd.tag221 : tag Tryd.prog 221 = some true := by kernel_rfl
@[simp] theorem Tryd.telem221 : telem Tryd.prog 221 = none := by kernel_rfl
@[simp] theorem Tryd.tarr221 : tarr Tryd.prog 221 = some (4, 220) := by kernel_rfl
@[simp] theorem Tryd.tint221 : tint Tryd.prog 221 = none := by kernel_rfl
@[simp] theorem Tryd.tbool221 : tbool Tryd.prog 221 = false := by kernel_rfl
@[simp] theorem Tryd.tbytes221 : tbytes Tryd.prog 221 = some 32 := by kernel_rfl
@[simp] theorem Tryd.tzero221 : tzero Tryd.prog 221 = some [.nilFunc, .nilFunc, .nilFunc, .nilFunc] := by kernel_rfl
@[simp] theorem Tryd.places221 : placesOf Tryd.prog 221 = some [(0, 1), (1, 1), (2, 1), (3, 1)] := by kernel_rfl
@[simp] theorem Tryd.tarrB221 : eqArrOk.tarr' Tryd.prog 221 = some (4, 220) := by kernel_rfl
@[simp] theorem Tryd.eqShape221 : eqShape Tryd.prog 221 = none := by kernel_rfl
@[simp] theorem Tryd.tsz223 : tsz Tryd.prog 223 = some 1 := by kernel_rfl
@[simp] theorem Tryd.tag223 : tag Tryd.prog 223 = some false := by kernel_rfl
@[simp] theorem Tryd.telem223 : telem Tryd.prog 223 = none := by kernel_rfl
@[simp] theorem Tryd.tarr223 : tarr Tryd.prog 223 = none := by kernel_rfl
@[simp] theorem Tryd.tint223 : tint Tryd.prog 223 = none := by kernel_rfl
@[simp] theorem Tryd.tbool223 : tbool Tryd.prog 223 = false := by kernel_rfl
@[simp] theorem Tryd.tbytes223 : tbytes Tryd.prog 223 = some 8 := by kernel_rfl
@[simp] theorem Tryd.tzero223 : tzero Tryd.prog 223 = some [.nilFunc] := by kernel_rfl
@[simp] theorem Tryd.tsz232 : tsz Tryd.prog 232 = some 1 := by kernel_rfl
@[simp] theorem Tryd.tag232 : tag Tryd.prog 232 = some false := by kernel_rfl
@[simp] theorem Tryd.telem232 : telem Tryd.prog 232 = none := by kernel_rfl
@[simp] theorem Tryd.tarr232 : tarr Tryd.prog 232 = none := by kernel_rfl
@[simp] theorem Tryd.tint232 : tint Tryd.prog 232 = none := by kernel_rfl
@[simp] theorem Tryd.tbool232 : tbool Tryd.prog 232 = false := by kernel_rfl
@[simp] theorem Tryd.tbytes232 : tbytes Tryd.prog 232 = some 8 := by kernel_rfl
@[simp] theorem Tryd.tzero232 : tzero Tryd.prog 232 = some [.nilFunc] := by kernel_rfl
@[simp] theorem Tryd.tsz233 : tsz Tryd.prog 233 = some 1 := by kernel_rfl
@[simp] theorem Tryd.tag233 : tag Tryd.prog 233 = some false := by kernel_rfl
@[simp] theorem Tryd.telem233 : telem Tryd.prog 233 = none := by kernel_rfl
@[simp] theorem Tryd.tarr233 : tarr Tryd.prog 233 = none := by kernel_rfl
@[simp] theorem Tryd.tint233 : tint Tryd.prog 233 = some .u64 := by kernel_rfl
@[simp] theorem Tryd.tbool233 : tbool Tryd.prog 233 = false := by kernel_rfl
@[simp] theorem Tryd.tbytes233 : tbytes Tryd.prog 233 = some 8 := by kernel_rfl
@[simp] theorem Tryd.tzero233 : tzero Tryd.prog 233 = some [.int .u64 0] := by kernel_rfl
@[simp] theorem Tryd.tsz237 : tsz Tryd.prog 237 = some 1 := by kernel_rfl
@[simp] theorem Tryd.tag237 : tag Tryd.prog 237 = some false := by kernel_rfl
@[simp] theorem Tryd.telem237 : telem Tryd.prog 237 = none := by kernel_rfl
@[simp] theorem Tryd.tarr237 : tarr Tryd.prog 237 = none := by kernel_rfl
@[simp] theorem Tryd.tint237 : tint Tryd.prog 237 = none := by kernel_rfl
@[simp] theorem Tryd.tbool237 : tbool Tryd.prog 237 = false := by kernel_rfl
@[simp] theorem Tryd.tbytes237 : tbytes Tryd.prog 237 = some 8 := by kernel_rfl
@[simp] theorem Tryd.tzero237 : tzero Tryd.prog 237 = some [.pointer none] := by kernel_rfl
@[simp] theorem Tryd.tsz243 : tsz Tryd.prog 243 = some 1 := by kernel_rfl
@[simp] theorem Tryd.tag243 : tag Tryd.prog 243 = some false := by kernel_rfl
@[simp] theorem Tryd.telem243 : telem Tryd.prog 243 = none := by kernel_rfl
@[simp] theorem Tryd.tarr243 : tarr Tryd.prog 243 = none := by kernel_rfl
@[simp] theorem Tryd.tint243 : tint Tryd.prog 243 = none := by kernel_rfl
@[simp] theorem Tryd.tbool243 : tbool Tryd.prog 243 = false := by kernel_rfl
@[simp] theorem Tryd.tbytes243 : tbytes Tryd.prog 243 = some 8 := by kernel_rfl
@[simp] theorem Tryd.tzero243 : tzero Tryd.prog 243 = some [.nilFunc] := by kernel_rfl
@[simp] theorem Tryd.tsz264 : tsz Tryd.prog 264 = some 1 := by kernel_rfl
@[simp] theorem Tryd.tag264 : tag Tryd.prog 264 = some false := by kernel_rfl
@[simp] theorem Tryd.telem264 : telem Tryd.prog 264 = none := by kernel_rfl
@[simp] theorem Tryd.tarr264 : tarr Tryd.prog 264 = none := by kernel_rfl
@[simp] theorem Tryd.tint264 : tint Tryd.prog 264 = none := by kernel_rfl
@[simp] theorem Tryd.tbool264 : tbool Tryd.prog 264 = false := by kernel_rfl
@[simp] theorem Tryd.tbytes264 : tbytes Tryd.prog 264 = some 8 := by kernel_rfl
@[simp] theorem Tryd.tzero264 : tzero Tryd.prog 264 = some [.nilFunc] := by kernel_rfl
@[simp] theorem Tryd.keyShape3 : keyShape Tryd.prog 3 = some [.int .i64] := by kernel_rfl
@[simp] theorem Tryd.keyShape132 : keyShape Tryd.prog 132 = some [.int .i64, .int .i64] := by kernel_rfl
@[simp] theorem Tryd.tzk3 : tzk Tryd.prog 3 = some [.int .i64 0] := by kernel_rfl
@[simp] theorem Tryd.tzk4 : tzk Tryd.prog 4 = some [.bool false] := by kernel_rfl
@[simp] theorem Tryd.tzk135 : tzk Tryd.prog 135 = some [.int .i64 0, .int .i64 0, .int .u8 0, .slice none 0 0, .slice none 0 0] := by kernel_rfl
@[simp] theorem Tryd.ok2 : CallOk Tryd.prog 2 := Tryd.call2
@[simp] theorem Tryd.ok3 : CallOk Tryd.prog 3 := Tryd.call3
@[simp] theorem Tryd.ok4 : CallOk Tryd.prog 4 := Tryd.call4
@[simp] theorem Tryd.ok5 : CallOk Tryd.prog 5 := Tryd.call5
@[simp] theorem Tryd.ok6 : CallOk Tryd.prog 6 := Tryd.call6
@[simp] theorem Tryd.ok7 : CallOk Tryd.prog 7 := Tryd.call7
@[simp] theorem Tryd.ok8 : CallOk Tryd.prog 8 := Tryd.call8
@[simp] theorem Tryd.ok9 : CallOk Tryd.prog 9 := Tryd.call9
@[simp] theorem Tryd.ok10 : CallOk Tryd.prog 10 := Tryd.call10
@[simp] theorem Tryd.ok11 : CallOk Tryd.prog 11 := Tryd.call11
@[simp] theorem Tryd.ok12 : CallOk Tryd.prog 12 := Tryd.call12
@[simp] theorem Tryd.ok13 : CallOk Tryd.prog 13 := Tryd.call13
@[simp] theorem Tryd.ok14 : CallOk Tryd.prog 14 := Tryd.call14
@[simp] theorem Tryd.ok15 : CallOk Tryd.prog 15 := Tryd.call15
@[simp] theorem Tryd.ok16 : CallOk Tryd.prog 16 := Tryd.call16
@[simp] theorem Tryd.ok17 : CallOk Tryd.prog 17 := Tryd.call17
@[simp] theorem Tryd.ok18 : CallOk Tryd.prog 18 := Tryd.call18
@[simp] theorem Tryd.ok19 : CallOk Tryd.prog 19 := Tryd.call19
@[simp] theorem Tryd.ok20 : CallOk Tryd.prog 20 := Tryd.call20
@[simp] theorem Tryd.ok21 : CallOk Tryd.prog 21 := Tryd.call21
@[simp] theorem Tryd.ok22 : CallOk Tryd.prog 22 := Tryd.call22
@[simp] theorem Tryd.ok23 : CallOk Tryd.prog 23 := Tryd.call23
@[simp] theorem Tryd.ok24 : CallOk Tryd.prog 24 := Tryd.call24
@[simp] theorem Tryd.ok25 : CallOk Tryd.prog 25 := Tryd.call25
@[simp] theorem Tryd.ok26 : CallOk Tryd.prog 26 := Tryd.call26
@[simp] theorem Tryd.ok27 : CallOk Tryd.prog 27 := Tryd.call27
@[simp] theorem Tryd.ok28 : CallOk Tryd.prog 28 := Tryd.call28
@[simp] theorem Tryd.ok29 : CallOk Tryd.prog 29 := Tryd.call29
@[simp] theorem Tryd.ok30 : CallOk Tryd.prog 30 := Tryd.call30
@[simp] theorem Tryd.ok31 : CallOk Tryd.prog 31 := Tryd.call31
@[simp] theorem Tryd.ok32 : CallOk Tryd.prog 32 := Tryd.call32
@[simp] theorem Tryd.ok33 : CallOk Tryd.prog 33 := Tryd.call33
@[simp] theorem Tryd.ok34 : CallOk Tryd.prog 34 := Tryd.call34
@[simp] theorem Tryd.ok35 : CallOk Tryd.prog 35 := Tryd.call35
@[simp] theorem Tryd.ok36 : CallOk Tryd.prog 36 := Tryd.call36
@[simp] theorem Tryd.ok37 : CallOk Tryd.prog 37 := Tryd.call37
@[simp] theorem Tryd.ok38 : CallOk Tryd.prog 38 := Tryd.call38
@[simp] theorem Tryd.ok39 : CallOk Tryd.prog 39 := Tryd.call39
@[simp] theorem Tryd.ok40 : CallOk Tryd.prog 40 := Tryd.call40
@[simp] theorem Tryd.ok41 : CallOk Tryd.prog 41 := Tryd.call41
@[simp] theorem Tryd.ok42 : CallOk Tryd.prog 42 := Tryd.call42
@[simp] theorem Tryd.ok43 : CallOk Tryd.prog 43 := Tryd.call43
@[simp] theorem Tryd.ok44 : CallOk Tryd.prog 44 := Tryd.call44
@[simp] theorem Tryd.ok45 : CallOk Tryd.prog 45 := Tryd.call45
@[simp] theorem Tryd.ok46 : CallOk Tryd.prog 46 := Tryd.call46
@[simp] theorem Tryd.ok47 : CallOk Tryd.prog 47 := Tryd.call47
@[simp] theorem Tryd.ok48 : CallOk Tryd.prog 48 := Tryd.call48
@[simp] theorem Tryd.ok49 : CallOk Tryd.prog 49 := Tryd.call49
@[simp] theorem Tryd.ok50 : CallOk Tryd.prog 50 := Tryd.call50
@[simp] theorem Tryd.ok51 : CallOk Tryd.prog 51 := Tryd.call51
@[simp] theorem Tryd.ok52 : CallOk Tryd.prog 52 := Tryd.call52
@[simp] theorem Tryd.ok53 : CallOk Tryd.prog 53 := Tryd.call53
@[simp] theorem Tryd.ok54 : CallOk Tryd.prog 54 := Tryd.call54
@[simp] theorem Tryd.ok55 : CallOk Tryd.prog 55 := Tryd.call55
@[simp] theorem Tryd.ok56 : CallOk Tryd.prog 56 := Tryd.call56
@[simp] theorem Tryd.ok57 : CallOk Tryd.prog 57 := Tryd.call57
@[simp] theorem Tryd.ok58 : CallOk Tryd.prog 58 := Tryd.call58
@[simp] theorem Tryd.ok59 : CallOk Tryd.prog 59 := Tryd.call59
@[simp] theorem Tryd.ok60 : CallOk Tryd.prog 60 := Tryd.call60
@[simp] theorem Tryd.ok61 : CallOk Tryd.prog 61 := Tryd.call61
@[simp] theorem Tryd.ok62 : CallOk Tryd.prog 62 := Tryd.call62
@[simp] theorem Tryd.ok63 : CallOk Tryd.prog 63 := Tryd.call63
@[simp] theorem Tryd.ok64 : CallOk Tryd.prog 64 := Tryd.call64
@[simp] theorem Tryd.ok65 : CallOk Tryd.prog 65 := Tryd.call65
@[simp] theorem Tryd.ok66 : CallOk Tryd.prog 66 := Tryd.call66
@[simp] theorem Tryd.ok67 : CallOk Tryd.prog 67 := Tryd.call67
@[simp] theorem Tryd.ok68 : CallOk Tryd.prog 68 := Tryd.call68
@[simp] theorem Tryd.ok69 : CallOk Tryd.prog 69 := Tryd.call69
@[simp] theorem Tryd.ok70 : CallOk Tryd.prog 70 := Tryd.call70
@[simp] theorem Tryd.ok71 : CallOk Tryd.prog 71 := Tryd.call71
@[simp] theorem Tryd.ok72 : CallOk Tryd.prog 72 := Tryd.call72
@[simp] theorem Tryd.ok73 : CallOk Tryd.prog 73 := Tryd.call73
@[simp] theorem Tryd.ok74 : CallOk Tryd.prog 74 := Tryd.call74
@[simp] theorem Tryd.ok75 : CallOk Tryd.prog 75 := Tryd.call75
@[simp] theorem Tryd.ok76 : CallOk Tryd.prog 76 := Tryd.call76
@[simp] theorem Tryd.ok77 : CallOk Tryd.prog 77 := Tryd.call77
@[simp] theorem Tryd.ok78 : CallOk Tryd.prog 78 := Tryd.call78
@[simp] theorem Tryd.ok79 : CallOk Tryd.prog 79 := Tryd.call79
@[simp] theorem Tryd.ok80 : CallOk Tryd.prog 80 := Tryd.call80
@[simp] theorem Tryd.ok81 : CallOk Tryd.prog 81 := Tryd.call81
@[simp] theorem Tryd.ok82 : CallOk Tryd.prog 82 := Tryd.call82
@[simp] theorem Tryd.ok83 : CallOk Tryd.prog 83 := Tryd.call83
@[simp] theorem Tryd.ok84 : CallOk Tryd.prog 84 := Tryd.call84
@[simp] theorem Tryd.ok85 : CallOk Tryd.prog 85 := Tryd.call85
@[simp] theorem Tryd.ok86 : CallOk Tryd.prog 86 := Tryd.call86
@[simp] theorem Tryd.ok87 : CallOk Tryd.prog 87 := Tryd.call87
@[simp] theorem Tryd.ok88 : CallOk Tryd.prog 88 := Tryd.call88
@[simp] theorem Tryd.ok89 : CallOk Tryd.prog 89 := Tryd.call89
@[simp] theorem Tryd.ok90 : CallOk Tryd.prog 90 := Tryd.call90
@[simp] theorem Tryd.ok91 : CallOk Tryd.prog 91 := Tryd.call91
@[simp] theorem Tryd.ok92 : CallOk Tryd.prog 92 := Tryd.call92
@[simp] theorem Tryd.ok93 : CallOk Tryd.prog 93 := Tryd.call93
@[simp] theorem Tryd.ok94 : CallOk Tryd.prog 94 := Tryd.call94
@[simp] theorem Tryd.ok95 : CallOk Tryd.prog 95 := Tryd.call95
@[simp] theorem Tryd.ok96 : CallOk Tryd.prog 96 := Tryd.call96
@[simp] theorem Tryd.ok97 : CallOk Tryd.prog 97 := Tryd.call97
@[simp] theorem Tryd.ok98 : CallOk Tryd.prog 98 := Tryd.call98
@[simp] theorem Tryd.ok99 : CallOk Tryd.prog 99 := Tryd.call99
@[simp] theorem Tryd.ok100 : CallOk Tryd.prog 100 := Tryd.call100
@[simp] theorem Tryd.ok101 : CallOk Tryd.prog 101 := Tryd.call101
@[simp] theorem Tryd.ok102 : CallOk Tryd.prog 102 := Tryd.call102
@[simp] theorem Tryd.ok103 : CallOk Tryd.prog 103 := Tryd.call103
@[simp] theorem Tryd.ok104 : CallOk Tryd.prog 104 := Tryd.call104
@[simp] theorem Tryd.ok105 : CallOk Tryd.prog 105 := Tryd.call105
@[simp] theorem Tryd.ok106 : CallOk Tryd.prog 106 := Tryd.call106
@[simp] theorem Tryd.ok107 : CallOk Tryd.prog 107 := Tryd.call107
@[simp] theorem Tryd.ok108 : CallOk Tryd.prog 108 := Tryd.call108
@[simp] theorem Tryd.ok109 : CallOk Tryd.prog 109 := Tryd.call109
@[simp] theorem Tryd.ok110 : CallOk Tryd.prog 110 := Tryd.call110
@[simp] theorem Tryd.ok111 : CallOk Tryd.prog 111 := Tryd.call111
@[simp] theorem Tryd.ok112 : CallOk Tryd.prog 112 := Tryd.call112
@[simp] theorem Tryd.ok113 : CallOk Tryd.prog 113 := Tryd.call113
@[simp] theorem Tryd.ok114 : CallOk Tryd.prog 114 := Tryd.call114
@[simp] theorem Tryd.ok115 : CallOk Tryd.prog 115 := Tryd.call115
@[simp] theorem Tryd.ok116 : CallOk Tryd.prog 116 := Tryd.call116
@[simp] theorem Tryd.ok117 : CallOk Tryd.prog 117 := Tryd.call117
@[simp] theorem Tryd.ok118 : CallOk Tryd.prog 118 := Tryd.call118
@[simp] theorem Tryd.ok119 : CallOk Tryd.prog 119 := Tryd.call119
@[simp] theorem Tryd.ok120 : CallOk Tryd.prog 120 := Tryd.call120
@[simp] theorem Tryd.ok121 : CallOk Tryd.prog 121 := Tryd.call121
@[simp] theorem Tryd.ok122 : CallOk Tryd.prog 122 := Tryd.call122
@[simp] theorem Tryd.ok123 : CallOk Tryd.prog 123 := Tryd.call123
@[simp] theorem Tryd.ok124 : CallOk Tryd.prog 124 := Tryd.call124
@[simp] theorem Tryd.ok125 : CallOk Tryd.prog 125 := Tryd.call125
@[simp] theorem Tryd.ok126 : CallOk Tryd.prog 126 := Tryd.call126
@[simp] theorem Tryd.ok127 : CallOk Tryd.prog 127 := Tryd.call127
@[simp] theorem Tryd.ok128 : CallOk Tryd.prog 128 := Tryd.call128
@[simp] theorem Tryd.ok129 : CallOk Tryd.prog 129 := Tryd.call129
@[simp] theorem Tryd.ok130 : CallOk Tryd.prog 130 := Tryd.call130
@[simp] theorem Tryd.ok131 : CallOk Tryd.prog 131 := Tryd.call131
@[simp] theorem Tryd.ok132 : CallOk Tryd.prog 132 := Tryd.call132
@[simp] theorem Tryd.ok133 : CallOk Tryd.prog 133 := Tryd.call133
@[simp] theorem Tryd.ok134 : CallOk Tryd.prog 134 := Tryd.call134
@[simp] theorem Tryd.ok135 : CallOk Tryd.prog 135 := Tryd.call135
@[simp] theorem Tryd.ok136 : CallOk Tryd.prog 136 := Tryd.call136
@[simp] theorem Tryd.ok137 : CallOk Tryd.prog 137 := Tryd.call137
@[simp] theorem Tryd.ok138 : CallOk Tryd.prog 138 := Tryd.call138
@[simp] theorem Tryd.ok139 : CallOk Tryd.prog 139 := Tryd.call139
@[simp] theorem Tryd.ok140 : CallOk Tryd.prog 140 := Tryd.call140
@[simp] theorem Tryd.ok141 : CallOk Tryd.prog 141 := Tryd.call141
@[simp] theorem Tryd.ok142 : CallOk Tryd.prog 142 := Tryd.call142
@[simp] theorem Tryd.ok143 : CallOk Tryd.prog 143 := Tryd.call143
@[simp] theorem Tryd.ok144 : CallOk Tryd.prog 144 := Tryd.call144
@[simp] theorem Tryd.ok145 : CallOk Tryd.prog 145 := Tryd.call145
@[simp] theorem Tryd.ok146 : CallOk Tryd.prog 146 := Tryd.call146
@[simp] theorem Tryd.ok147 : CallOk Tryd.prog 147 := Tryd.call147
@[simp] theorem Tryd.ok148 : CallOk Tryd.prog 148 := Tryd.call148
@[simp] theorem Tryd.ok149 : CallOk Tryd.prog 149 := Tryd.call149
@[simp] theorem Tryd.ok150 : CallOk Tryd.prog 150 := Tryd.call150
@[simp] theorem Tryd.ok151 : CallOk Tryd.prog 151 := Tryd.call151
@[simp] theorem Tryd.ok152 : CallOk Tryd.prog 152 := Tryd.call152
@[simp] theorem Tryd.ok153 : CallOk Tryd.prog 153 := Tryd.call153
@[simp] theorem Tryd.ok154 : CallOk Tryd.prog 154 := Tryd.call154
@[simp] theorem Tryd.ok155 : CallOk Tryd.prog 155 := Tryd.call155
@[simp] theorem Tryd.ok156 : CallOk Tryd.prog 156 := Tryd.call156
@[simp] theorem Tryd.ok157 : CallOk Tryd.prog 157 := Tryd.call157
@[simp] theorem Tryd.ok158 : CallOk Tryd.prog 158 := Tryd.call158
@[simp] theorem Tryd.ok159 : CallOk Tryd.prog 159 := Tryd.call159
@[simp] theorem Tryd.ok160 : CallOk Tryd.prog 160 := Tryd.call160
@[simp] theorem Tryd.ok161 : CallOk Tryd.prog 161 := Tryd.call161
@[simp] theorem Tryd.ok162 : CallOk Tryd.prog 162 := Tryd.call162
@[simp] theorem Tryd.ok163 : CallOk Tryd.prog 163 := Tryd.call163
@[simp] theorem Tryd.ok164 : CallOk Tryd.prog 164 := Tryd.call164
@[simp] theorem Tryd.ok165 : CallOk Tryd.prog 165 := Tryd.call165
@[simp] theorem Tryd.ok166 : CallOk Tryd.prog 166 := Tryd.call166
@[simp] theorem Tryd.ok167 : CallOk Tryd.prog 167 := Tryd.call167
@[simp] theorem Tryd.ok186 : CallOk Tryd.prog 186 := Tryd.call186
@[simp] theorem Tryd.ok187 : CallOk Tryd.prog 187 := Tryd.call187
@[simp] theorem Tryd.ok188 : CallOk Tryd.prog 188 := Tryd.call188
@[simp] theorem Tryd.ok189 : CallOk Tryd.prog 189 := Tryd.call189
@[simp] theorem Tryd.ok190 : CallOk Tryd.prog 190 := Tryd.call190
@[simp] theorem Tryd.ok191 : CallOk Tryd.prog 191 := Tryd.call191
@[simp] theorem Tryd.ok192 : CallOk Tryd.prog 192 := Tryd.call192
@[simp] theorem Tryd.ok193 : CallOk Tryd.prog 193 := Tryd.call193
@[simp] theorem Tryd.ok194 : CallOk Tryd.prog 194 := Tryd.call194
@[simp] theorem Tryd.ok195 : CallOk Tryd.prog 195 := Tryd.call195
@[simp] theorem Tryd.ok196 : CallOk Tryd.prog 196 := Tryd.call196
@[simp] theorem Tryd.ok197 : CallOk Tryd.prog 197 := Tryd.call197
@[simp] theorem Tryd.ok198 : CallOk Tryd.prog 198 := Tryd.call198
@[simp] theorem Tryd.ok199 : CallOk Tryd.prog 199 := Tryd.call199
@[simp] theorem Tryd.ok200 : CallOk Tryd.prog 200 := Tryd.call200
@[simp] theorem Tryd.ok201 : CallOk Tryd.prog 201 := Tryd.call201
@[simp] theorem Tryd.ok202 : CallOk Tryd.prog 202 := Tryd.call202
@[simp] theorem Tryd.ok203 : CallOk Tryd.prog 203 := Tryd.call203
@[simp] theorem Tryd.ok204 : CallOk Tryd.prog 204 := Tryd.call204
@[simp] theorem Tryd.ok205 : CallOk Tryd.prog 205 := Tryd.call205
@[simp] theorem Tryd.ok206 : CallOk Tryd.prog 206 := Tryd.call206
@[simp] theorem Tryd.ok207 : CallOk Tryd.prog 207 := Tryd.call207
@[simp] theorem Tryd.ok208 : CallOk Tryd.prog 208 := Tryd.call208
@[simp] theorem Tryd.ok209 : CallOk Tryd.prog 209 := Tryd.call209
@[simp] theorem Tryd.ok210 : CallOk Tryd.prog 210 := Tryd.call210
@[simp] theorem Tryd.ok211 : CallOk Tryd.prog 211 := Tryd.call211
@[simp] theorem Tryd.ok217 : CallOk Tryd.prog 217 := Tryd.call217
end Go.Proofs
