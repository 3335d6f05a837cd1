/- The tied card of the law NoteClashes holds: for all notes that are not great, and all lists of up to 20 Numbers, the pairs of notes that contradict each other and the fewest notes to withdraw are the specification's, and the notes stay; without further conditions. -/
import Derived.Test.YtmonmfpdckdoiaaDoorCards
import Derived.Test.YtmonmfpdckdoiaaDoorTie
import Derived.SevenTiedAt
import Derived.Test.YtmonmfpdckdoiaaDoorD15
import Derived.Test.YtmonmfpdckdoiaaDoorD17
import Derived.Test.YtmonmfpdckdoiaaDoorD18
set_option linter.all false
set_option linter.deprecated false
namespace Go.Proofs.YtmonmfpdckdoiaaDoor
open Go Go.Ab Go.ChangeShapes Go.WideShapes Go.ChangeAt Go.RowKit
def G6 (g : Nat) : Option (List IC) := if g = 2 then some [.fn (.func 202) [], .fn (.func 203) [], .fn (.func 204) [], .fn (.func 205) []] else if g = 1 then some [.fn (.func 189) [], .fn (.func 190) [], .fn (.func 191) [], .fn (.func 192) [], .fn (.func 193) [], .fn (.func 194) [], .fn (.func 197) [], .fn (.func 199) []] else .none
theorem own : ownKnob Tryd.prog.godebug = .none := by kernel_rfl
theorem laidOut : laidOutB Tryd.prog = true := by kernel_rfl
theorem rep_table {W : World} {g : Nat} {fs : List FuncId} (h0 : 0 < fs.length) (h : ∀ (j : Nat) (f : FuncId), fs[j]? = some f → W.cell? ⟨g, j, .none⟩ = some (.func (.func f) #[] #[])) : RepI W (okW W) (.ip (fs.map fun f => .fn (.func f) [])) (.pointer (some ⟨g, 0, .none⟩)) := by
  have hb : g < W.heap.size := block_of_cell (a := ⟨g, 0, .none⟩) (h 0 fs[0] (by simp))
  refine .ip _ _ (fun j => .func (.func (fs.getD j 0)) #[] #[]) rfl hb (fun j c hj => ?_) (fun j c hj => ?_)
  · rw [List.getElem?_map, Option.map_eq_some_iff] at hj
    obtain ⟨f, hf, rfl⟩ := hj
    have := h j f hf
    simpa [hf] using this
  · rw [List.getElem?_map, Option.map_eq_some_iff] at hj
    obtain ⟨f, hf, rfl⟩ := hj
    simpa [hf] using RepI.fn (w := W) (ok := okW W) (.func f) [] #[] rfl (fun j c v h => by simp at h)
theorem sheet_cells {W : World} (h : laidMetH Tryd.prog Rows.noteClashesRow.laid W) : ∀ (j : Nat) (f : FuncId), [202, 203, 204, 205][j]? = some f → W.cell? ⟨2, j, .none⟩ = some (.func (.func f) #[] #[]) := by
  obtain ⟨g, t, cs, fuel, p, hg, ht, hv, hd⟩ := h.funcs (n := "blueline/sheet.checks") (List.mem_cons_self ..)
  obtain rfl := Option.some.inj (gSheet.symm.trans hg)
  obtain rfl := Option.some.inj (tSheet.symm.trans ht)
  intro j f hj
  rw [World.var?_cell hg hv j]
  exact cells_of_table (names := [[98, 108, 117, 101, 108, 105, 110, 101, 47, 115, 104, 101, 101, 116, 46, 99, 104, 101, 99, 107, 115, 36, 49], [98, 108, 117, 101, 108, 105, 110, 101, 47, 115, 104, 101, 101, 116, 46, 99, 104, 101, 99, 107, 115, 36, 50], [98, 108, 117, 101, 108, 105, 110, 101, 47, 115, 104, 101, 101, 116, 46, 99, 104, 101, 99, 107, 115, 36, 51], [98, 108, 117, 101, 108, 105, 110, 101, 47, 115, 104, 101, 101, 116, 46, 99, 104, 101, 99, 107, 115, 36, 52]]) (fs := [202, 203, 204, 205]) Tryd.underlying221 Tryd.underlying220 rfl rfl Tryd.underlying202 (by kernel_rfl) (by kernel_rfl) rfl (by kernel_rfl) rfl hd j f hj
theorem note_cells {W : World} (h : laidMetH Tryd.prog Rows.noteClashesRow.laid W) : ∀ (j : Nat) (f : FuncId), [189, 190, 191, 192, 193, 194, 197, 199][j]? = some f → W.cell? ⟨1, j, .none⟩ = some (.func (.func f) #[] #[]) := by
  obtain ⟨g, t, cs, fuel, p, hg, ht, hv, hd⟩ := h.funcs (n := "blueline/note.checks") (List.mem_cons_of_mem _ (List.mem_cons_self ..))
  obtain rfl := Option.some.inj (gNote.symm.trans hg)
  obtain rfl := Option.some.inj (tNote.symm.trans ht)
  intro j f hj
  rw [World.var?_cell hg hv j]
  exact cells_of_table (names := [[98, 108, 117, 101, 108, 105, 110, 101, 47, 110, 111, 116, 101, 46, 99, 104, 101, 99, 107, 115, 36, 49], [98, 108, 117, 101, 108, 105, 110, 101, 47, 110, 111, 116, 101, 46, 99, 104, 101, 99, 107, 115, 36, 50], [98, 108, 117, 101, 108, 105, 110, 101, 47, 110, 111, 116, 101, 46, 99, 104, 101, 99, 107, 115, 36, 51], [98, 108, 117, 101, 108, 105, 110, 101, 47, 110, 111, 116, 101, 46, 99, 104, 101, 99, 107, 115, 36, 52], [98, 108, 117, 101, 108, 105, 110, 101, 47, 110, 111, 116, 101, 46, 99, 104, 101, 99, 107, 115, 36, 53], [98, 108, 117, 101, 108, 105, 110, 101, 47, 110, 111, 116, 101, 46, 99, 104, 101, 99, 107, 115, 36, 54], [98, 108, 117, 101, 108, 105, 110, 101, 47, 110, 111, 116, 101, 46, 99, 104, 101, 99, 107, 115, 36, 55], [98, 108, 117, 101, 108, 105, 110, 101, 47, 110, 111, 116, 101, 46, 99, 104, 101, 99, 107, 115, 36, 56]]) (fs := [189, 190, 191, 192, 193, 194, 197, 199]) Tryd.underlying179 Tryd.underlying178 rfl rfl Tryd.underlying118 (by kernel_rfl) (by kernel_rfl) rfl (by kernel_rfl) rfl hd j f hj
theorem rep_G6 {W : World} (h : laidMetH Tryd.prog Rows.noteClashesRow.laid W) : ∀ g l, G6 g = some l → RepI W (okW W) (.ip l) (.pointer (some ⟨g, 0, .none⟩)) := by
  intro g l hl
  unfold G6 at hl
  split at hl
  · rename_i e; subst e; cases hl; exact rep_table (fs := [202, 203, 204, 205]) (by decide) (sheet_cells h)
  · split at hl
    · rename_i e; subst e; cases hl; exact rep_table (fs := [189, 190, 191, 192, 193, 194, 197, 199]) (by decide) (note_cells h)
    · cases hl
theorem door_met (os : Os) (args : Array Value) : laidMetH Tryd.prog Rows.noteClashesRow.laid ((World.doorLaid Tryd.prog 600 os).forCall (fun _ _ => 0) ⟨#[], args, []⟩).memory :=
  laidMetH_of_parts3 (fuel := 8) (laidMet_of_run' 8 (by kernel_rfl) (by kernel_rfl)) (by kernel_rfl) (by kernel_rfl)
set_option maxRecDepth 100000 in
theorem noteClashes_lifted (os : Os) (started : os.Started) (H : Type) (enc : TypeId × Value → H) :
    ReturnsInHanded {} Tryd.checked os 6 .any (fun w args => (Rows.noteClashesSpec.pre enc Tryd.prog Tryd.f6 [] false w args ∧ laidMetH Tryd.prog Rows.noteClashesRow.laid w) ∧ sizedMet enc Tryd.prog Tryd.f6 (OpenSpec.ofChange Rows.noteClashesSpec) false w args)
      (Rows.noteClashesSpec.post enc Tryd.prog Tryd.f6 false true false false) := by
  refine returnsInHanded_of_change_and (C := Tryd.checked) (X := fun w _ => laidMetH Tryd.prog Rows.noteClashesRow.laid w) (fun _ _ _ hh h => h.of_heap hh) own started (by kernel_rfl) Tryd.func6
    (ChangeSpec.witness_shaped (enc := enc) (C := Tryd.checked) (os := os) (X := fun w _ => laidMetH Tryd.prog Rows.noteClashesRow.laid w) false (World.doorLaid Tryd.prog 600 os) #[.agg #[.slice .none 0 0, .slice .none 0 0], .slice .none 0 0] 8 rfl (World.shaped_of_RefB (by kernel_rfl) (by kernel_rfl)) (by kernel_rfl) (by kernel_rfl) (by kernel_rfl) (door_met os _)) ?_
  intro W base args ds gs before hval0 hW _ _ hL _
  have hval : ∀ (j : Nat) t v, Tryd.f6.params[j]? = some t → args[j]? = some v → Value.okWide Tryd.prog W .any base t v := hval0
  have hW' := hW
  obtain ⟨p, q, hA0, hV, rfl, hfz, hnd⟩ := hW
  have hA : DataW.TrodAll enc Tryd.prog W 0 (fun _ => true) true Tryd.f6.params.toList args.toList ds p := hA0
  rw [Tryd.params6] at hA hval
  obtain ⟨v0, v1, d0, d1, p0, p1, rfl, rfl, rfl, h0, h1⟩ := trodAll_two hA
  obtain ⟨rfl, rfl⟩ := trodVars_none hV
  obtain ⟨cs0, rfl, hcs0⟩ := okWide_struct Tryd.underlying48 (hval 0 48 v0 rfl rfl)
  obtain ⟨sa1, sn1, sc1, rfl⟩ := okWide_slice Tryd.underlying25 (hval 1 25 v1 rfl rfl)
  clear hA0 hval0
  simp only [List.append_nil] at hW'
  have h0k := h0
  obtain ⟨fuel0, hf0⟩ := h0
  obtain ⟨l0, ⟨c0, hc0, rfl⟩, hR0⟩ := rdNotes H enc W fuel0 cs0.toList _ hf0
  have hlt0 : ∀ x ∈ p0, x.block < W.heap.size := fun x hx => by simpa using hW'.lt x (by simp [hx])
  have h1k := h1
  obtain ⟨fuel1, hf1⟩ := h1
  obtain ⟨l1, ⟨c1, rfl⟩, hR1⟩ := oInts H enc W fuel1 [.slice sa1 sn1 sc1] _ hf1
  have hlt1 : ∀ x ∈ p1, x.block < W.heap.size := fun x hx => by simpa using hW'.lt x (by simp [hx])
  have hcall := (noteClashes_c (G := G6) c0 c1 rfl rfl (sortOk G6) hc0 []).calls (vs := #[.agg cs0, .slice sa1 sn1 sc1]) (W := W) (u := .bool true) (rep_G6 hL) rfl (fun j d v hd hv => by
    match j with
    | 0 => simp at hd hv; subst hd; subst hv; exact .ofCells hR0
    | 1 => simp at hd hv; subst hd; subst hv; exact .ofCell hR1
    | j + 2 => simp at hd)
  refine hcall.mono fun e W' ⟨he, hnx⟩ => ?_
  subst he
  refine ⟨_, rfl, _, _, _, [], p0 ++ p1, [], hW', trodAll_mk1 (shut_bool Tryd.underlying4 _), ?_, rfl, hnx.frame _, fun h => by cases h⟩
  have hend := trodAll_mk2 (Below.trod laidOut (by kernel_rfl) (of_decide_eq_true (by kernel_rfl)) h0k hnx hlt0) (Below.trod laidOut (by kernel_rfl) (of_decide_eq_true (by kernel_rfl)) h1k hnx hlt1)
  simp only [List.append_nil, List.nil_append, List.append_assoc] at hend ⊢
  exact hend
theorem noteClashes_holds : Rows.NoteClashesSaid :=
  OpenClaim.holds_of_wide 6 Tryd.f6 rfl rfl rfl rfl rfl rfl rfl ⟨rfl, rfl, rfl, rfl, rfl⟩ rfl rfl rfl rfl rfl (by kernel_rfl) Tryd.func6 (by kernel_rfl)
    (of_decide_eq_true (by kernel_rfl)) (by unfold Func.isWrapper; first | (rw [if_pos (by decide +kernel)]; kernel_rfl) | (rw [if_neg (by decide +kernel)]; exact ⟨rfl, rfl⟩))
    (fun os started H enc _ => noteClashes_lifted os started H enc)
theorem noteClashes_card_holds : Rows.NoteClashesCardSaid :=
  Claim7.holds_tied_plain_at .later [] [.funcs, .funcs] true (true, "88938e07b57172453b7874b59122558750eaf8704f0d66b43845b074fcaf6265") false
    noteClashes_holds (fun _ h => by cases h) (by kernel_rfl) (fun _ h => by cases h) noteClashes_row_tie rfl ⟨rfl, rfl⟩ (by kernel_rfl) rfl
    (fun f fn hf hfn => by
      obtain rfl : f = 6 := Option.some.inj ((show Tryd.prog.funcNamed "blueline/bluelinelaw03.NoteClashes" = some 6 by kernel_rfl).symm.trans hf) |>.symm
      obtain rfl : fn = Tryd.f6 := (Option.some.inj (Tryd.func6.symm.trans hfn)).symm
      exact ⟨by kernel_rfl, fun j t ht => by
        rw [Tryd.params6] at ht
        have hm : t ∈ [48, 25] := by simpa using Array.mem_of_getElem? ht
        have hall : ([48, 25].all fun u => !Tryd.prog.wantsStandIn u) = true := by kernel_rfl
        exact (show Tryd.prog.wantsStandIn t = false by simpa using List.all_eq_true.1 hall t hm)⟩)
    (by kernel_rfl)
#print axioms noteClashes_card_holds
end Go.Proofs.YtmonmfpdckdoiaaDoor
