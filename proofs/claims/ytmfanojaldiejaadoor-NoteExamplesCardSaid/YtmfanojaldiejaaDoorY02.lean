/- The law NoteExamples answers true: the examples of the chapter, limits and numbers of errors; without conditions. -/
import Derived.Test.YtmfanojaldiejaaDoorCards
import Derived.Test.YtmfanojaldiejaaDoorTie
import Derived.SevenTiedAt
import Derived.Test.YtmfanojaldiejaaDoorA25
import Derived.Test.YtmfanojaldiejaaDoorA27
import Derived.Test.YtmfanojaldiejaaDoorY01
set_option linter.all false
set_option linter.deprecated false
namespace Go.Proofs.YtmfanojaldiejaaDoor
open Go Go.Ab Go.ChangeShapes Go.WideShapes Go.ChangeAt Go.RowKit
def G6 (g : Nat) : Option (List IC) := if g = 1 then some [.fn (.func 128) [], .fn (.func 129) [], .fn (.func 130) [], .fn (.func 131) []] else if g = 0 then some [.fn (.func 112) [], .fn (.func 113) [], .fn (.func 114) [], .fn (.func 115) [], .fn (.func 117) [], .fn (.func 118) [], .fn (.func 121) [], .fn (.func 123) []] else .none
theorem gSheet : Tryd.prog.globalNamed "blueline/sheet.checks" = some 1 := by kernel_rfl
theorem tSheet : (Tryd.prog.globals[1]?).map (·.type) = some 138 := by kernel_rfl
theorem gNote : Tryd.prog.globalNamed "blueline/note.checks" = some 0 := by kernel_rfl
theorem tNote : (Tryd.prog.globals[0]?).map (·.type) = some 109 := by kernel_rfl
theorem own : ownKnob Tryd.prog.godebug = .none := by kernel_rfl
theorem laidOut : laidOutB Tryd.prog = true := by kernel_rfl
theorem rep_table {W : World} {g : Nat} {fs : List FuncId} (h0 : 0 < fs.length) (h : ∀ (j : Nat) (f : FuncId), fs[j]? = some f → W.cell? ⟨g, j, .none⟩ = some (.func (.func f) #[] #[])) : RepI W (okW W) (.ip (fs.map fun f => .fn (.func f) [])) (.pointer (some ⟨g, 0, .none⟩)) := by
  have hb : g < W.heap.size := block_of_cell (a := ⟨g, 0, .none⟩) (h 0 fs[0] (by simp))
  refine .ip _ _ (fun j => .func (.func (fs.getD j 0)) #[] #[]) rfl hb (fun j c hj => ?_) (fun j c hj => ?_)
  · rw [List.getElem?_map, Option.map_eq_some_iff] at hj
    obtain ⟨f, hf, rfl⟩ := hj
    have := h j f hf
    simpa [hf] using this
  · rw [List.getElem?_map, Option.map_eq_some_iff] at hj
    obtain ⟨f, hf, rfl⟩ := hj
    simpa [hf] using RepI.fn (w := W) (ok := okW W) (.func f) [] #[] rfl (fun j c v h => by simp at h)
theorem sheet_cells {W : World} (h : laidMetH Tryd.prog Rows.noteExamplesRow.laid W) : ∀ (j : Nat) (f : FuncId), [128,129,130,131][j]? = some f → W.cell? ⟨1, j, .none⟩ = some (.func (.func f) #[] #[]) := by
  obtain ⟨g, t, cs, fuel, p, hg, ht, hv, hd⟩ := h.funcs (n := "blueline/sheet.checks") (List.mem_cons_self ..)
  obtain rfl := Option.some.inj (gSheet.symm.trans hg)
  obtain rfl := Option.some.inj (tSheet.symm.trans ht)
  intro j f hj
  rw [World.var?_cell hg hv j]
  exact cells_of_table (names := [[98,108,117,101,108,105,110,101,47,115,104,101,101,116,46,99,104,101,99,107,115,36,49], [98,108,117,101,108,105,110,101,47,115,104,101,101,116,46,99,104,101,99,107,115,36,50], [98,108,117,101,108,105,110,101,47,115,104,101,101,116,46,99,104,101,99,107,115,36,51], [98,108,117,101,108,105,110,101,47,115,104,101,101,116,46,99,104,101,99,107,115,36,52]]) (fs := [128,129,130,131]) Tryd.underlying138 Tryd.underlying137 rfl rfl Tryd.underlying136 (by kernel_rfl) (by kernel_rfl) rfl (by kernel_rfl) rfl hd j f hj
theorem note_cells {W : World} (h : laidMetH Tryd.prog Rows.noteExamplesRow.laid W) : ∀ (j : Nat) (f : FuncId), [112,113,114,115,117,118,121,123][j]? = some f → W.cell? ⟨0, j, .none⟩ = some (.func (.func f) #[] #[]) := by
  obtain ⟨g, t, cs, fuel, p, hg, ht, hv, hd⟩ := h.funcs (n := "blueline/note.checks") (List.mem_cons_of_mem _ (List.mem_cons_self ..))
  obtain rfl := Option.some.inj (gNote.symm.trans hg)
  obtain rfl := Option.some.inj (tNote.symm.trans ht)
  intro j f hj
  rw [World.var?_cell hg hv j]
  exact cells_of_table (names := [[98,108,117,101,108,105,110,101,47,110,111,116,101,46,99,104,101,99,107,115,36,49], [98,108,117,101,108,105,110,101,47,110,111,116,101,46,99,104,101,99,107,115,36,50], [98,108,117,101,108,105,110,101,47,110,111,116,101,46,99,104,101,99,107,115,36,51], [98,108,117,101,108,105,110,101,47,110,111,116,101,46,99,104,101,99,107,115,36,52], [98,108,117,101,108,105,110,101,47,110,111,116,101,46,99,104,101,99,107,115,36,53], [98,108,117,101,108,105,110,101,47,110,111,116,101,46,99,104,101,99,107,115,36,54], [98,108,117,101,108,105,110,101,47,110,111,116,101,46,99,104,101,99,107,115,36,55], [98,108,117,101,108,105,110,101,47,110,111,116,101,46,99,104,101,99,107,115,36,56]]) (fs := [112,113,114,115,117,118,121,123]) Tryd.underlying109 Tryd.underlying108 rfl rfl Tryd.underlying106 (by kernel_rfl) (by kernel_rfl) rfl (by kernel_rfl) rfl hd j f hj
theorem rep_G6 {W : World} (h : laidMetH Tryd.prog Rows.noteExamplesRow.laid W) : ∀ g l, G6 g = some l → RepI W (okW W) (.ip l) (.pointer (some ⟨g, 0, .none⟩)) := by
  intro g l hl
  unfold G6 at hl
  split at hl
  · rename_i e; subst e; cases hl; exact rep_table (fs := [128,129,130,131]) (by decide) (sheet_cells h)
  · split at hl
    · rename_i e; subst e; cases hl; exact rep_table (fs := [112,113,114,115,117,118,121,123]) (by decide) (note_cells h)
    · cases hl
theorem door_met (os : Os) (args : Array Value) : laidMetH Tryd.prog Rows.noteExamplesRow.laid ((World.doorLaid Tryd.prog 600 os).forCall (fun _ _ => 0) ⟨#[], args, []⟩).memory :=
  laidMetH_of_parts3 (fuel := 8) (laidMet_of_run' 8 (by kernel_rfl) (by kernel_rfl)) (by kernel_rfl) (by kernel_rfl)
set_option maxRecDepth 100000 in
theorem noteExamples_lifted (os : Os) (started : os.Started) (H : Type) (enc : TypeId × Value → H) :
    ReturnsInHanded {} Tryd.checked os 3 .any (fun w args => (Rows.noteExamplesSpec.pre enc Tryd.prog Tryd.f3 [] false w args ∧ laidMetH Tryd.prog Rows.noteExamplesRow.laid w) ∧ sizedMet enc Tryd.prog Tryd.f3 (OpenSpec.ofChange Rows.noteExamplesSpec) false w args)
      (Rows.noteExamplesSpec.post enc Tryd.prog Tryd.f3 false true false false) := by
  refine returnsInHanded_of_change_and (C := Tryd.checked) (X := fun w _ => laidMetH Tryd.prog Rows.noteExamplesRow.laid w) (fun _ _ _ hh h => h.of_heap hh) own started (by kernel_rfl) Tryd.func3
    (ChangeSpec.witness_shaped (enc := enc) (C := Tryd.checked) (os := os) (X := fun w _ => laidMetH Tryd.prog Rows.noteExamplesRow.laid w) false (World.doorLaid Tryd.prog 600 os) #[] 8 rfl (World.shaped_of_RefB (by kernel_rfl) (by kernel_rfl)) (by kernel_rfl) (by kernel_rfl) (by kernel_rfl) (door_met os _)) ?_
  intro W base args ds gs before hval0 hW _ _ hL _
  have hval : ∀ (j : Nat) t v, Tryd.f3.params[j]? = some t → args[j]? = some v → Value.okWide Tryd.prog W .any base t v := hval0
  have hW' := hW
  obtain ⟨p, q, hA0, hV, rfl, hfz, hnd⟩ := hW
  have hA : DataW.TrodAll enc Tryd.prog W 0 (fun _ => true) true Tryd.f3.params.toList args.toList ds p := hA0
  rw [Tryd.params3] at hA hval
  obtain ⟨hargs, rfl, rfl⟩ := trodAll_nil hA
  obtain rfl : args = #[] := by cases args; simp_all
  obtain ⟨rfl, rfl⟩ := trodVars_none hV
  clear hA0 hval0
  simp only [List.append_nil] at hW'
  have hcall := (noteExamples_c (G := G6) rfl rfl (sortOk G6) []).calls (vs := #[]) (W := W) (u := .bool true) (rep_G6 hL) rfl (fun j d v hd hv => by
    simp at hd)
  refine hcall.mono fun e W' ⟨he, hnx⟩ => ?_
  subst he
  refine ⟨_, rfl, _, _, _, [], [], [], hW', trodAll_mk1 (shut_bool Tryd.underlying4 _), ?_, rfl, hnx.frame _, fun h => by cases h⟩
  exact rfl
theorem noteExamples_holds : Rows.NoteExamplesSaid :=
  OpenClaim.holds_of_wide 3 Tryd.f3 rfl rfl rfl rfl rfl rfl rfl ⟨rfl, rfl, rfl, rfl, rfl⟩ rfl rfl rfl rfl rfl (by kernel_rfl) Tryd.func3 (by kernel_rfl)
    (of_decide_eq_true (by kernel_rfl)) (by unfold Func.isWrapper; first | (rw [if_pos (by decide +kernel)]; kernel_rfl) | (rw [if_neg (by decide +kernel)]; exact ⟨rfl, rfl⟩))
    (fun os started H enc _ => noteExamples_lifted os started H enc)
theorem noteExamples_card_holds : Rows.NoteExamplesCardSaid :=
  Claim7.holds_tied_plain_at .later [] [.funcs, .funcs] true (true, "28f70b7b5d2ea021856e8c45ff67b51f8e0e5eb97e7167582b51ee84f11b8e8e") false
    noteExamples_holds (fun _ h => by cases h) (by kernel_rfl) (fun _ h => by cases h) noteExamples_row_tie rfl ⟨rfl, rfl⟩ (by kernel_rfl) rfl
    (fun f fn hf hfn => by
      obtain rfl : f = 3 := Option.some.inj ((show Tryd.prog.funcNamed "blueline/bluelinelaw03.NoteExamples" = some 3 by kernel_rfl).symm.trans hf) |>.symm
      obtain rfl : fn = Tryd.f3 := (Option.some.inj (Tryd.func3.symm.trans hfn)).symm
      exact ⟨by kernel_rfl, fun j t ht => by
        rw [Tryd.params3] at ht
        have hm : t ∈ [] := by simpa using Array.mem_of_getElem? ht
        have hall : ([].all fun u => !Tryd.prog.wantsStandIn u) = true := by kernel_rfl
        exact (show Tryd.prog.wantsStandIn t = false by simpa using List.all_eq_true.1 hall t hm)⟩)
    (by kernel_rfl)
#print axioms noteExamples_card_holds
end Go.Proofs.YtmfanojaldiejaaDoor
