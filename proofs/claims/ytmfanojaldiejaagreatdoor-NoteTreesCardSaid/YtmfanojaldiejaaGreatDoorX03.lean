/- For any notes, truth, two machines and a drawing the law NoteTrees answers true: letters are such that trees can be made; without conditions. -/
import Derived.Test.YtmfanojaldiejaaGreatDoorCards
import Derived.Test.YtmfanojaldiejaaGreatDoorTie
import Derived.SevenTiedAt
import Derived.Test.YtmfanojaldiejaaGreatDoorB27
import Derived.Test.YtmfanojaldiejaaGreatDoorB29
import Derived.Test.YtmfanojaldiejaaGreatDoorX01
import Derived.Test.YtmfanojaldiejaaGreatDoorX02
set_option linter.all false
set_option linter.deprecated false
namespace Go.Proofs.YtmfanojaldiejaaGreatDoor
open Go Go.Ab Go.ChangeShapes Go.WideShapes Go.ChangeAt Go.RowKit
def G6 (g : Nat) : Option (List IC) := if g = 1 then some [.fn (.func 172) [], .fn (.func 173) [], .fn (.func 174) [], .fn (.func 175) []] else if g = 0 then some [.fn (.func 158) [], .fn (.func 159) [], .fn (.func 160) [], .fn (.func 161) [], .fn (.func 163) [], .fn (.func 164) [], .fn (.func 167) [], .fn (.func 169) []] else .none
theorem gSheet : Tryz.prog.globalNamed "blueline/sheet.checks" = some 1 := by kernel_rfl
theorem tSheet : (Tryz.prog.globals[1]?).map (·.type) = some 181 := by kernel_rfl
theorem gNote : Tryz.prog.globalNamed "blueline/note.checks" = some 0 := by kernel_rfl
theorem tNote : (Tryz.prog.globals[0]?).map (·.type) = some 156 := by kernel_rfl
theorem own : ownKnob Tryz.prog.godebug = .none := by kernel_rfl
theorem laidOut : laidOutB Tryz.prog = true := by kernel_rfl
theorem rep_table {W : World} {g : Nat} {fs : List FuncId} (h0 : 0 < fs.length) (h : ∀ (j : Nat) (f : FuncId), fs[j]? = some f → W.cell? ⟨g, j, .none⟩ = some (.func (.func f) #[] #[])) : RepI W (okW W) (.ip (fs.map fun f => .fn (.func f) [])) (.pointer (some ⟨g, 0, .none⟩)) := by
  have hb : g < W.heap.size := block_of_cell (a := ⟨g, 0, .none⟩) (h 0 fs[0] (by simp))
  refine .ip _ _ (fun j => .func (.func (fs.getD j 0)) #[] #[]) rfl hb (fun j c hj => ?_) (fun j c hj => ?_)
  · rw [List.getElem?_map, Option.map_eq_some_iff] at hj
    obtain ⟨f, hf, rfl⟩ := hj
    have := h j f hf
    simpa [hf] using this
  · rw [List.getElem?_map, Option.map_eq_some_iff] at hj
    obtain ⟨f, hf, rfl⟩ := hj
    simpa [hf] using RepI.fn (w := W) (ok := okW W) (.func f) [] #[] rfl (fun j c v h => by simp at h)
theorem sheet_cells {W : World} (h : laidMetH Tryz.prog Rows.noteTreesRow.laid W) : ∀ (j : Nat) (f : FuncId), [172, 173, 174, 175][j]? = some f → W.cell? ⟨1, j, .none⟩ = some (.func (.func f) #[] #[]) := by
  obtain ⟨g, t, cs, fuel, p, hg, ht, hv, hd⟩ := h.funcs (n := "blueline/sheet.checks") (List.mem_cons_self ..)
  obtain rfl := Option.some.inj (gSheet.symm.trans hg)
  obtain rfl := Option.some.inj (tSheet.symm.trans ht)
  intro j f hj
  rw [World.var?_cell hg hv j]
  exact cells_of_table (names := [[98, 108, 117, 101, 108, 105, 110, 101, 47, 115, 104, 101, 101, 116, 46, 99, 104, 101, 99, 107, 115, 36, 49], [98, 108, 117, 101, 108, 105, 110, 101, 47, 115, 104, 101, 101, 116, 46, 99, 104, 101, 99, 107, 115, 36, 50], [98, 108, 117, 101, 108, 105, 110, 101, 47, 115, 104, 101, 101, 116, 46, 99, 104, 101, 99, 107, 115, 36, 51], [98, 108, 117, 101, 108, 105, 110, 101, 47, 115, 104, 101, 101, 116, 46, 99, 104, 101, 99, 107, 115, 36, 52]]) (fs := [172, 173, 174, 175]) Tryz.underlying181 Tryz.underlying180 rfl rfl Tryz.underlying164 (by kernel_rfl) (by kernel_rfl) rfl (by kernel_rfl) rfl hd j f hj
theorem note_cells {W : World} (h : laidMetH Tryz.prog Rows.noteTreesRow.laid W) : ∀ (j : Nat) (f : FuncId), [158, 159, 160, 161, 163, 164, 167, 169][j]? = some f → W.cell? ⟨0, j, .none⟩ = some (.func (.func f) #[] #[]) := by
  obtain ⟨g, t, cs, fuel, p, hg, ht, hv, hd⟩ := h.funcs (n := "blueline/note.checks") (List.mem_cons_of_mem _ (List.mem_cons_self ..))
  obtain rfl := Option.some.inj (gNote.symm.trans hg)
  obtain rfl := Option.some.inj (tNote.symm.trans ht)
  intro j f hj
  rw [World.var?_cell hg hv j]
  exact cells_of_table (names := [[98, 108, 117, 101, 108, 105, 110, 101, 47, 110, 111, 116, 101, 46, 99, 104, 101, 99, 107, 115, 36, 49], [98, 108, 117, 101, 108, 105, 110, 101, 47, 110, 111, 116, 101, 46, 99, 104, 101, 99, 107, 115, 36, 50], [98, 108, 117, 101, 108, 105, 110, 101, 47, 110, 111, 116, 101, 46, 99, 104, 101, 99, 107, 115, 36, 51], [98, 108, 117, 101, 108, 105, 110, 101, 47, 110, 111, 116, 101, 46, 99, 104, 101, 99, 107, 115, 36, 52], [98, 108, 117, 101, 108, 105, 110, 101, 47, 110, 111, 116, 101, 46, 99, 104, 101, 99, 107, 115, 36, 53], [98, 108, 117, 101, 108, 105, 110, 101, 47, 110, 111, 116, 101, 46, 99, 104, 101, 99, 107, 115, 36, 54], [98, 108, 117, 101, 108, 105, 110, 101, 47, 110, 111, 116, 101, 46, 99, 104, 101, 99, 107, 115, 36, 55], [98, 108, 117, 101, 108, 105, 110, 101, 47, 110, 111, 116, 101, 46, 99, 104, 101, 99, 107, 115, 36, 56]]) (fs := [158, 159, 160, 161, 163, 164, 167, 169]) Tryz.underlying156 Tryz.underlying155 rfl rfl Tryz.underlying145 (by kernel_rfl) (by kernel_rfl) rfl (by kernel_rfl) rfl hd j f hj
theorem rep_G6 {W : World} (h : laidMetH Tryz.prog Rows.noteTreesRow.laid W) : ∀ g l, G6 g = some l → RepI W (okW W) (.ip l) (.pointer (some ⟨g, 0, .none⟩)) := by
  intro g l hl
  unfold G6 at hl
  split at hl
  · rename_i e; subst e; cases hl; exact rep_table (fs := [172, 173, 174, 175]) (by decide) (sheet_cells h)
  · split at hl
    · rename_i e; subst e; cases hl; exact rep_table (fs := [158, 159, 160, 161, 163, 164, 167, 169]) (by decide) (note_cells h)
    · cases hl
theorem door_met (os : Os) (args : Array Value) : laidMetH Tryz.prog Rows.noteTreesRow.laid ((World.doorLaid Tryz.prog 600 os).forCall (fun _ _ => 0) ⟨#[], args, []⟩).memory :=
  laidMetH_of_parts3 (fuel := 8) (laidMet_of_run' 8 (by kernel_rfl) (by kernel_rfl)) (by kernel_rfl) (by kernel_rfl)
set_option maxRecDepth 100000 in
theorem noteTrees_lifted (os : Os) (started : os.Started) (H : Type) (enc : TypeId × Value → H) :
    ReturnsInHanded {} Tryz.checked os 11 .any (fun w args => (Rows.noteTreesSpec.pre enc Tryz.prog Tryz.f11 [] false w args ∧ laidMetH Tryz.prog Rows.noteTreesRow.laid w) ∧ sizedMet enc Tryz.prog Tryz.f11 (OpenSpec.ofChange Rows.noteTreesSpec) false w args)
      (Rows.noteTreesSpec.post enc Tryz.prog Tryz.f11 false true false false) := by
  refine returnsInHanded_of_change_and (C := Tryz.checked) (X := fun w _ => laidMetH Tryz.prog Rows.noteTreesRow.laid w) (fun _ _ _ hh h => h.of_heap hh) own started (by kernel_rfl) Tryz.func11
    (ChangeSpec.witness_shaped (enc := enc) (C := Tryz.checked) (os := os) (X := fun w _ => laidMetH Tryz.prog Rows.noteTreesRow.laid w) false (World.doorLaid Tryz.prog 600 os) #[.agg #[.slice .none 0 0, .slice .none 0 0], .int .u8 0, .int .u16 0, .int .u16 0, .int .u8 0] 8 rfl (World.shaped_of_RefB (by kernel_rfl) (by kernel_rfl)) (by kernel_rfl) (by kernel_rfl) (by kernel_rfl) (door_met os _)) ?_
  intro W base args ds gs before hval0 hW _ _ hL _
  have hval : ∀ (j : Nat) t v, Tryz.f11.params[j]? = some t → args[j]? = some v → Value.okWide Tryz.prog W .any base t v := hval0
  have hW' := hW
  obtain ⟨p, q, hA0, hV, rfl, hfz, hnd⟩ := hW
  have hA : DataW.TrodAll enc Tryz.prog W 0 (fun _ => true) true Tryz.f11.params.toList args.toList ds p := hA0
  rw [Tryz.params11] at hA hval
  obtain ⟨v0, v1, v2, v3, v4, d0, d1, d2, d3, d4, p0, p1, p2, p3, p4, rfl, rfl, rfl, h0, h1, h2, h3, h4⟩ := trodAll_five hA
  obtain ⟨rfl, rfl⟩ := trodVars_none hV
  obtain ⟨cs0, rfl, hcs0⟩ := okWide_struct Tryz.underlying27 (hval 0 27 v0 rfl rfl)
  obtain ⟨n1, rfl, rfl, rfl, wn1⟩ := open_int Tryz.underlying5 (hval 1 5 v1 rfl rfl) h1
  obtain ⟨n2, rfl, rfl, rfl, wn2⟩ := open_int Tryz.underlying28 (hval 2 28 v2 rfl rfl) h2
  obtain ⟨n3, rfl, rfl, rfl, wn3⟩ := open_int Tryz.underlying28 (hval 3 28 v3 rfl rfl) h3
  obtain ⟨n4, rfl, rfl, rfl, wn4⟩ := open_int Tryz.underlying5 (hval 4 5 v4 rfl rfl) h4
  clear hA0 hval0
  simp only [List.append_nil] at hW'
  have rn1 : 0 ≤ n1 ∧ n1 ≤ 255 := by simpa [Lit.wf, IntKind.min, IntKind.max, IntKind.signed, IntKind.bits] using wn1
  obtain ⟨m1, rfl⟩ := Int.eq_ofNat_of_zero_le rn1.1
  have rm1 : m1 < 256 := by omega
  have rn2 : 0 ≤ n2 ∧ n2 ≤ 65535 := by simpa [Lit.wf, IntKind.min, IntKind.max, IntKind.signed, IntKind.bits] using wn2
  obtain ⟨m2, rfl⟩ := Int.eq_ofNat_of_zero_le rn2.1
  have rm2 : m2 < 65536 := by omega
  have rn3 : 0 ≤ n3 ∧ n3 ≤ 65535 := by simpa [Lit.wf, IntKind.min, IntKind.max, IntKind.signed, IntKind.bits] using wn3
  obtain ⟨m3, rfl⟩ := Int.eq_ofNat_of_zero_le rn3.1
  have rm3 : m3 < 65536 := by omega
  have rn4 : 0 ≤ n4 ∧ n4 ≤ 255 := by simpa [Lit.wf, IntKind.min, IntKind.max, IntKind.signed, IntKind.bits] using wn4
  obtain ⟨m4, rfl⟩ := Int.eq_ofNat_of_zero_le rn4.1
  have rm4 : m4 < 256 := by omega
  have h0k := h0
  obtain ⟨fuel0, hf0⟩ := h0
  obtain ⟨l0, ⟨c0, hc0, rfl⟩, hR0⟩ := rdNotes H enc W fuel0 cs0.toList _ hf0
  have hlt0 : ∀ x ∈ p0, x.block < W.heap.size := fun x hx => by simpa using hW'.lt x (by simp [hx])
  have hcall := (noteTrees_c (G := G6) c0 m1 m2 m3 m4 rfl rfl (sortOk G6) hc0 rm1 rm2 rm3 rm4 []).calls (vs := #[.agg cs0, .int .u8 (m1 : Int), .int .u16 (m2 : Int), .int .u16 (m3 : Int), .int .u8 (m4 : Int)]) (W := W) (u := .bool true) (rep_G6 hL) rfl (fun j d v hd hv => by
    match j with
    | 0 => simp at hd hv; subst hd; subst hv; exact .ofCells hR0
    | 1 => simp at hd hv; subst hd; subst hv; exact .ofCell (c := .raw (.int .u8 (m1 : Int))) (.one (.raw _ rfl))
    | 2 => simp at hd hv; subst hd; subst hv; exact .ofCell (c := .raw (.int .u16 (m2 : Int))) (.one (.raw _ rfl))
    | 3 => simp at hd hv; subst hd; subst hv; exact .ofCell (c := .raw (.int .u16 (m3 : Int))) (.one (.raw _ rfl))
    | 4 => simp at hd hv; subst hd; subst hv; exact .ofCell (c := .raw (.int .u8 (m4 : Int))) (.one (.raw _ rfl))
    | j + 5 => simp at hd)
  refine hcall.mono fun e W' ⟨he, hnx⟩ => ?_
  subst he
  refine ⟨_, rfl, _, _, _, [], p0, [], hW', trodAll_mk1 (shut_bool Tryz.underlying4 _), ?_, rfl, hnx.frame _, fun h => by cases h⟩
  have hend := trodAll_mk5 (Below.trod laidOut (by kernel_rfl) (of_decide_eq_true (by kernel_rfl)) h0k hnx hlt0) (shut_int (enc := enc) (w := W') (base := 0) (spare := fun b => decide (b < W.heap.size)) (held := true) Tryz.underlying5 wn1) (shut_int (enc := enc) (w := W') (base := 0) (spare := fun b => decide (b < W.heap.size)) (held := true) Tryz.underlying28 wn2) (shut_int (enc := enc) (w := W') (base := 0) (spare := fun b => decide (b < W.heap.size)) (held := true) Tryz.underlying28 wn3) (shut_int (enc := enc) (w := W') (base := 0) (spare := fun b => decide (b < W.heap.size)) (held := true) Tryz.underlying5 wn4)
  simp only [List.append_nil, List.nil_append, List.append_assoc] at hend ⊢
  exact hend
theorem noteTrees_holds : Rows.NoteTreesSaid :=
  OpenClaim.holds_of_wide 11 Tryz.f11 rfl rfl rfl rfl rfl rfl rfl ⟨rfl, rfl, rfl, rfl, rfl⟩ rfl rfl rfl rfl rfl (by kernel_rfl) Tryz.func11 (by kernel_rfl)
    (of_decide_eq_true (by kernel_rfl)) (by unfold Func.isWrapper; first | (rw [if_pos (by decide +kernel)]; kernel_rfl) | (rw [if_neg (by decide +kernel)]; exact ⟨rfl, rfl⟩))
    (fun os started H enc _ => noteTrees_lifted os started H enc)
theorem noteTrees_card_holds : Rows.NoteTreesCardSaid :=
  Claim7.holds_tied_plain_at .later [] [.funcs, .funcs] true (true, "118aecda057b7ca32dc712c0dd06a10b475f554568b26240f197050cb7023140") false
    noteTrees_holds (fun _ h => by cases h) (by kernel_rfl) (fun _ h => by cases h) noteTrees_row_tie rfl ⟨rfl, rfl⟩ (by kernel_rfl) rfl
    (fun f fn hf hfn => by
      obtain rfl : f = 11 := Option.some.inj ((show Tryz.prog.funcNamed "blueline/bluelinelaw03.NoteTrees" = some 11 by kernel_rfl).symm.trans hf) |>.symm
      obtain rfl : fn = Tryz.f11 := (Option.some.inj (Tryz.func11.symm.trans hfn)).symm
      exact ⟨by kernel_rfl, fun j t ht => by
        rw [Tryz.params11] at ht
        have hm : t ∈ [27, 5, 28, 28, 5] := by simpa using Array.mem_of_getElem? ht
        have hall : ([27, 5, 28, 28, 5].all fun u => !Tryz.prog.wantsStandIn u) = true := by kernel_rfl
        exact (show Tryz.prog.wantsStandIn t = false by simpa using List.all_eq_true.1 hall t hm)⟩)
    (by kernel_rfl)
#print axioms noteTrees_card_holds
end Go.Proofs.YtmfanojaldiejaaGreatDoor
