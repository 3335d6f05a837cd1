/-
  NARROWER THAN 'FOR EVERY INPUT', by the rows' own cells (each row's printed sentence says how): NoteTruth: laid · NoteSettled: laid · NoteRule: laid · NoteStretched: laid · NoteWithdrawn: laid · NoteClashed: laid · NoteCancelled: laid · NoteMatters: laid · NoteTrees: laid.
  DERIVED. THE GIVEN ROWS OF THIS SEAT. 9 by the template 'for every input the law returns true; each argument reads behind the call as it read before'; 0 by the template 'total and deterministic' (their statements: YtmfanojaldiejaaGreatDoorTotals.lean).
  GIVEN WITH THE SEED: the statements are not yours to turn. If you find one false, say at which input.
  Laid BY PROGRAM, IN A SANDBOX (cutbox-rows.mjs): the forced cells as the released guide's own fill.sh prints them over the translation fcccac327016e8af… (all of the seat's roots in one cut). By AI agents, Wed Nov 11 2026. No macro, syntax, notation, axiom, sorry.
-/
import Derived.Test.YtmfanojaldiejaaGreatDoorChecked
import GoSem.Claim
import GoSem.ClaimJoined
import GoSem.ClaimMapViews
import Derived.JoinedTies
import Derived.KernelRfl
namespace Go.Proofs.YtmfanojaldiejaaGreatDoor
/- THE CELL 'sum', in the pinned program and in every row, IS THE sha256 OF THE DUMP (.gsa) THAT YtmfanojaldiejaaGreatDoorProg.lean LOADS. Nothing in Lean hashes anything: it is a label: what it is worth is what the hold of that sum in a sandbox is worth. -/
noncomputable def Tryz.pinned : Pinned := { name := "ytmfanojaldiejaagreatdoor", sum := "fcccac327016e8af69e92ac3adeeaafb0567161352ae35d704a0230b83390f66", checked := Tryz.checked }
namespace Rows
def none {H : Type} : Left H := { results := [], args := [] }

/- WHAT THE LISTED PACKAGE-LEVEL VARIABLES READ AS WHEN THE CALL BEGINS. Each datum BY PROGRAM (the guide's laid-datum.mjs) off the statement by which the dump's own 'gosem.cut.vars' lays the variable. In a bare row this is a premise. The card (YtmfanojaldiejaaGreatDoorCards.lean) ties it to the program's text. -/
def laid_blueline_sheet_checks {H : Type} : DataW H := .iface "func table" (.agg [.agg [.iface "func" (.lit (.string [98, 108, 117, 101, 108, 105, 110, 101, 47, 115, 104, 101, 101, 116, 46, 99, 104, 101, 99, 107, 115, 36, 49]))], .agg [.iface "func" (.lit (.string [98, 108, 117, 101, 108, 105, 110, 101, 47, 115, 104, 101, 101, 116, 46, 99, 104, 101, 99, 107, 115, 36, 50]))], .agg [.iface "func" (.lit (.string [98, 108, 117, 101, 108, 105, 110, 101, 47, 115, 104, 101, 101, 116, 46, 99, 104, 101, 99, 107, 115, 36, 51]))], .agg [.iface "func" (.lit (.string [98, 108, 117, 101, 108, 105, 110, 101, 47, 115, 104, 101, 101, 116, 46, 99, 104, 101, 99, 107, 115, 36, 52]))]])
def laid_blueline_note_checks {H : Type} : DataW H := .iface "func table" (.agg [.agg [.iface "func" (.lit (.string [98, 108, 117, 101, 108, 105, 110, 101, 47, 110, 111, 116, 101, 46, 99, 104, 101, 99, 107, 115, 36, 49]))], .agg [.iface "func" (.lit (.string [98, 108, 117, 101, 108, 105, 110, 101, 47, 110, 111, 116, 101, 46, 99, 104, 101, 99, 107, 115, 36, 50]))], .agg [.iface "func" (.lit (.string [98, 108, 117, 101, 108, 105, 110, 101, 47, 110, 111, 116, 101, 46, 99, 104, 101, 99, 107, 115, 36, 51]))], .agg [.iface "func" (.lit (.string [98, 108, 117, 101, 108, 105, 110, 101, 47, 110, 111, 116, 101, 46, 99, 104, 101, 99, 107, 115, 36, 52]))], .agg [.iface "func" (.lit (.string [98, 108, 117, 101, 108, 105, 110, 101, 47, 110, 111, 116, 101, 46, 99, 104, 101, 99, 107, 115, 36, 53]))], .agg [.iface "func" (.lit (.string [98, 108, 117, 101, 108, 105, 110, 101, 47, 110, 111, 116, 101, 46, 99, 104, 101, 99, 107, 115, 36, 54]))], .agg [.iface "func" (.lit (.string [98, 108, 117, 101, 108, 105, 110, 101, 47, 110, 111, 116, 101, 46, 99, 104, 101, 99, 107, 115, 36, 55]))], .agg [.iface "func" (.lit (.string [98, 108, 117, 101, 108, 105, 110, 101, 47, 110, 111, 116, 101, 46, 99, 104, 101, 99, 107, 115, 36, 56]))]])

/-- 'bluelinelaw03.NoteTruth': WHATEVER THE INPUT: true; the input reads as it did. -/
def noteTruthSpec : ChangeSpec := { name := "noteTruth", fn := fun _ => fun
  | [d1, d2, d3] => { results := [.lit (.bool true)], args := [d1, d2, d3] }
  | _ => none }
def noteTruthRow : OpenClaim := { program := "ytmfanojaldiejaagreatdoor", sum := "fcccac327016e8af69e92ac3adeeaafb0567161352ae35d704a0230b83390f66", func := "blueline/bluelinelaw03.NoteTruth", spec := "noteTruth", unfollowed := true, recurses := true, named := ["blueline/note.checks", "blueline/sheet.checks"], plainKeys := false, apart := false, laid := [("blueline/sheet.checks", laid_blueline_sheet_checks), ("blueline/note.checks", laid_blueline_note_checks)] }
def NoteTruthSaid : Prop := noteTruthRow.holds Tryz.pinned (OpenSpec.ofChange noteTruthSpec)

/-- ITS FALSE NEIGHBOUR: 'it returns false'. Refute it at one input. -/
def noteTruthWrong : ChangeSpec := { name := "noteTruth", fn := fun _ => fun
  | [d1, d2, d3] => { results := [.lit (.bool false)], args := [d1, d2, d3] }
  | _ => none }
def NoteTruthWrongFalsely : Prop := noteTruthRow.holds Tryz.pinned (OpenSpec.ofChange noteTruthWrong)

/-- 'bluelinelaw03.NoteSettled': WHATEVER THE INPUT: true; the input reads as it did. -/
def noteSettledSpec : ChangeSpec := { name := "noteSettled", fn := fun _ => fun
  | [d1, d2, d3, d4] => { results := [.lit (.bool true)], args := [d1, d2, d3, d4] }
  | _ => none }
def noteSettledRow : OpenClaim := { program := "ytmfanojaldiejaagreatdoor", sum := "fcccac327016e8af69e92ac3adeeaafb0567161352ae35d704a0230b83390f66", func := "blueline/bluelinelaw03.NoteSettled", spec := "noteSettled", unfollowed := true, recurses := true, named := ["blueline/note.checks", "blueline/sheet.checks"], plainKeys := false, apart := false, laid := [("blueline/sheet.checks", laid_blueline_sheet_checks), ("blueline/note.checks", laid_blueline_note_checks)] }
def NoteSettledSaid : Prop := noteSettledRow.holds Tryz.pinned (OpenSpec.ofChange noteSettledSpec)

/-- ITS FALSE NEIGHBOUR: 'it returns false'. Refute it at one input. -/
def noteSettledWrong : ChangeSpec := { name := "noteSettled", fn := fun _ => fun
  | [d1, d2, d3, d4] => { results := [.lit (.bool false)], args := [d1, d2, d3, d4] }
  | _ => none }
def NoteSettledWrongFalsely : Prop := noteSettledRow.holds Tryz.pinned (OpenSpec.ofChange noteSettledWrong)

/-- 'bluelinelaw03.NoteRule': WHATEVER THE INPUT: true; the input reads as it did. -/
def noteRuleSpec : ChangeSpec := { name := "noteRule", fn := fun _ => fun
  | [d1, d2, d3, d4] => { results := [.lit (.bool true)], args := [d1, d2, d3, d4] }
  | _ => none }
def noteRuleRow : OpenClaim := { program := "ytmfanojaldiejaagreatdoor", sum := "fcccac327016e8af69e92ac3adeeaafb0567161352ae35d704a0230b83390f66", func := "blueline/bluelinelaw03.NoteRule", spec := "noteRule", unfollowed := true, recurses := true, named := ["blueline/note.checks", "blueline/sheet.checks"], plainKeys := false, apart := false, laid := [("blueline/sheet.checks", laid_blueline_sheet_checks), ("blueline/note.checks", laid_blueline_note_checks)] }
def NoteRuleSaid : Prop := noteRuleRow.holds Tryz.pinned (OpenSpec.ofChange noteRuleSpec)

/-- ITS FALSE NEIGHBOUR: 'it returns false'. Refute it at one input. -/
def noteRuleWrong : ChangeSpec := { name := "noteRule", fn := fun _ => fun
  | [d1, d2, d3, d4] => { results := [.lit (.bool false)], args := [d1, d2, d3, d4] }
  | _ => none }
def NoteRuleWrongFalsely : Prop := noteRuleRow.holds Tryz.pinned (OpenSpec.ofChange noteRuleWrong)

/-- 'bluelinelaw03.NoteStretched': WHATEVER THE INPUT: true; the input reads as it did. -/
def noteStretchedSpec : ChangeSpec := { name := "noteStretched", fn := fun _ => fun
  | [d1, d2, d3, d4] => { results := [.lit (.bool true)], args := [d1, d2, d3, d4] }
  | _ => none }
def noteStretchedRow : OpenClaim := { program := "ytmfanojaldiejaagreatdoor", sum := "fcccac327016e8af69e92ac3adeeaafb0567161352ae35d704a0230b83390f66", func := "blueline/bluelinelaw03.NoteStretched", spec := "noteStretched", unfollowed := true, recurses := true, named := ["blueline/note.checks", "blueline/sheet.checks"], plainKeys := false, apart := false, laid := [("blueline/sheet.checks", laid_blueline_sheet_checks), ("blueline/note.checks", laid_blueline_note_checks)] }
def NoteStretchedSaid : Prop := noteStretchedRow.holds Tryz.pinned (OpenSpec.ofChange noteStretchedSpec)

/-- ITS FALSE NEIGHBOUR: 'it returns false'. Refute it at one input. -/
def noteStretchedWrong : ChangeSpec := { name := "noteStretched", fn := fun _ => fun
  | [d1, d2, d3, d4] => { results := [.lit (.bool false)], args := [d1, d2, d3, d4] }
  | _ => none }
def NoteStretchedWrongFalsely : Prop := noteStretchedRow.holds Tryz.pinned (OpenSpec.ofChange noteStretchedWrong)

/-- 'bluelinelaw03.NoteWithdrawn': WHATEVER THE INPUT: true; the input reads as it did. -/
def noteWithdrawnSpec : ChangeSpec := { name := "noteWithdrawn", fn := fun _ => fun
  | [d1, d2, d3] => { results := [.lit (.bool true)], args := [d1, d2, d3] }
  | _ => none }
def noteWithdrawnRow : OpenClaim := { program := "ytmfanojaldiejaagreatdoor", sum := "fcccac327016e8af69e92ac3adeeaafb0567161352ae35d704a0230b83390f66", func := "blueline/bluelinelaw03.NoteWithdrawn", spec := "noteWithdrawn", unfollowed := true, recurses := true, named := ["blueline/note.checks", "blueline/sheet.checks"], plainKeys := false, apart := false, laid := [("blueline/sheet.checks", laid_blueline_sheet_checks), ("blueline/note.checks", laid_blueline_note_checks)] }
def NoteWithdrawnSaid : Prop := noteWithdrawnRow.holds Tryz.pinned (OpenSpec.ofChange noteWithdrawnSpec)

/-- ITS FALSE NEIGHBOUR: 'it returns false'. Refute it at one input. -/
def noteWithdrawnWrong : ChangeSpec := { name := "noteWithdrawn", fn := fun _ => fun
  | [d1, d2, d3] => { results := [.lit (.bool false)], args := [d1, d2, d3] }
  | _ => none }
def NoteWithdrawnWrongFalsely : Prop := noteWithdrawnRow.holds Tryz.pinned (OpenSpec.ofChange noteWithdrawnWrong)

/-- 'bluelinelaw03.NoteClashed': WHATEVER THE INPUT: true; the input reads as it did. -/
def noteClashedSpec : ChangeSpec := { name := "noteClashed", fn := fun _ => fun
  | [d1, d2] => { results := [.lit (.bool true)], args := [d1, d2] }
  | _ => none }
def noteClashedRow : OpenClaim := { program := "ytmfanojaldiejaagreatdoor", sum := "fcccac327016e8af69e92ac3adeeaafb0567161352ae35d704a0230b83390f66", func := "blueline/bluelinelaw03.NoteClashed", spec := "noteClashed", unfollowed := true, recurses := true, named := ["blueline/note.checks", "blueline/sheet.checks"], plainKeys := false, apart := false, laid := [("blueline/sheet.checks", laid_blueline_sheet_checks), ("blueline/note.checks", laid_blueline_note_checks)] }
def NoteClashedSaid : Prop := noteClashedRow.holds Tryz.pinned (OpenSpec.ofChange noteClashedSpec)

/-- ITS FALSE NEIGHBOUR: 'it returns false'. Refute it at one input. -/
def noteClashedWrong : ChangeSpec := { name := "noteClashed", fn := fun _ => fun
  | [d1, d2] => { results := [.lit (.bool false)], args := [d1, d2] }
  | _ => none }
def NoteClashedWrongFalsely : Prop := noteClashedRow.holds Tryz.pinned (OpenSpec.ofChange noteClashedWrong)

/-- 'bluelinelaw03.NoteCancelled': WHATEVER THE INPUT: true; the input reads as it did. -/
def noteCancelledSpec : ChangeSpec := { name := "noteCancelled", fn := fun _ => fun
  | [d1, d2, d3, d4] => { results := [.lit (.bool true)], args := [d1, d2, d3, d4] }
  | _ => none }
def noteCancelledRow : OpenClaim := { program := "ytmfanojaldiejaagreatdoor", sum := "fcccac327016e8af69e92ac3adeeaafb0567161352ae35d704a0230b83390f66", func := "blueline/bluelinelaw03.NoteCancelled", spec := "noteCancelled", unfollowed := true, recurses := true, named := ["blueline/note.checks", "blueline/sheet.checks"], plainKeys := false, apart := false, laid := [("blueline/sheet.checks", laid_blueline_sheet_checks), ("blueline/note.checks", laid_blueline_note_checks)] }
def NoteCancelledSaid : Prop := noteCancelledRow.holds Tryz.pinned (OpenSpec.ofChange noteCancelledSpec)

/-- ITS FALSE NEIGHBOUR: 'it returns false'. Refute it at one input. -/
def noteCancelledWrong : ChangeSpec := { name := "noteCancelled", fn := fun _ => fun
  | [d1, d2, d3, d4] => { results := [.lit (.bool false)], args := [d1, d2, d3, d4] }
  | _ => none }
def NoteCancelledWrongFalsely : Prop := noteCancelledRow.holds Tryz.pinned (OpenSpec.ofChange noteCancelledWrong)

/-- 'bluelinelaw03.NoteMatters': WHATEVER THE INPUT: true; the input reads as it did. -/
def noteMattersSpec : ChangeSpec := { name := "noteMatters", fn := fun _ => fun
  | [d1, d2, d3] => { results := [.lit (.bool true)], args := [d1, d2, d3] }
  | _ => none }
def noteMattersRow : OpenClaim := { program := "ytmfanojaldiejaagreatdoor", sum := "fcccac327016e8af69e92ac3adeeaafb0567161352ae35d704a0230b83390f66", func := "blueline/bluelinelaw03.NoteMatters", spec := "noteMatters", unfollowed := true, recurses := true, named := ["blueline/note.checks", "blueline/sheet.checks"], plainKeys := false, apart := false, laid := [("blueline/sheet.checks", laid_blueline_sheet_checks), ("blueline/note.checks", laid_blueline_note_checks)] }
def NoteMattersSaid : Prop := noteMattersRow.holds Tryz.pinned (OpenSpec.ofChange noteMattersSpec)

/-- ITS FALSE NEIGHBOUR: 'it returns false'. Refute it at one input. -/
def noteMattersWrong : ChangeSpec := { name := "noteMatters", fn := fun _ => fun
  | [d1, d2, d3] => { results := [.lit (.bool false)], args := [d1, d2, d3] }
  | _ => none }
def NoteMattersWrongFalsely : Prop := noteMattersRow.holds Tryz.pinned (OpenSpec.ofChange noteMattersWrong)

/-- 'bluelinelaw03.NoteTrees': WHATEVER THE INPUT: true; the input reads as it did. -/
def noteTreesSpec : ChangeSpec := { name := "noteTrees", fn := fun _ => fun
  | [d1, d2, d3, d4, d5] => { results := [.lit (.bool true)], args := [d1, d2, d3, d4, d5] }
  | _ => none }
def noteTreesRow : OpenClaim := { program := "ytmfanojaldiejaagreatdoor", sum := "fcccac327016e8af69e92ac3adeeaafb0567161352ae35d704a0230b83390f66", func := "blueline/bluelinelaw03.NoteTrees", spec := "noteTrees", unfollowed := true, recurses := true, named := ["blueline/note.checks", "blueline/sheet.checks"], plainKeys := false, apart := false, laid := [("blueline/sheet.checks", laid_blueline_sheet_checks), ("blueline/note.checks", laid_blueline_note_checks)] }
def NoteTreesSaid : Prop := noteTreesRow.holds Tryz.pinned (OpenSpec.ofChange noteTreesSpec)

/-- ITS FALSE NEIGHBOUR: 'it returns false'. Refute it at one input. -/
def noteTreesWrong : ChangeSpec := { name := "noteTrees", fn := fun _ => fun
  | [d1, d2, d3, d4, d5] => { results := [.lit (.bool false)], args := [d1, d2, d3, d4, d5] }
  | _ => none }
def NoteTreesWrongFalsely : Prop := noteTreesRow.holds Tryz.pinned (OpenSpec.ofChange noteTreesWrong)

/- THE SECOND FORM. 'bulk': how many values and letters a reading holds, each counted each time it is reached (what is shared counts as often as it is met; a slice's spare places count too). A statement '..UptoSaid' is the law's where the arguments, and the package variables that the reading takes, are together of bulk at most 1048576: NARROWER than '..Said'. Prove '..Said' where nothing that the law and all that it calls make is longer than what came in: it says more and counts as full. Else prove '..UptoSaid'. A law counts once. -/
mutual
def uptoBulk {H : Type} : DataW H → Nat
  | .lit (.string bytes) => bytes.length + 1
  | .lit _ => 1
  | .nil => 1
  | .ptr d => uptoBulk d + 1
  | .slice elems spare => uptoBulkAll elems + uptoBulkAll spare + 1
  | .agg parts => uptoBulkAll parts + 1
  | .iface _ d => uptoBulk d + 1
  | .map entries => uptoBulkEntries entries + 1
  | .held _ => 1
def uptoBulkAll {H : Type} : List (DataW H) → Nat
  | [] => 0
  | d :: r => uptoBulk d + uptoBulkAll r
def uptoBulkEntries {H : Type} : List (Lit × DataW H) → Nat
  | [] => 0
  | x :: r => uptoBulkEntry x + uptoBulkEntries r
def uptoBulkEntry {H : Type} : Lit × DataW H → Nat
  | (.string bytes, d) => bytes.length + uptoBulk d + 1
  | (_, d) => uptoBulk d + 1
 end
def uptoSmall : (H : Type) → List (DataW H) → Bool := fun _ ds => decide (uptoBulkAll ds ≤ 1048576)
def OpenSpec.upto (s : _root_.Go.ChangeSpec) : _root_.Go.OpenSpec := { _root_.Go.OpenSpec.ofChange s with cond := some uptoSmall }

/-- 'bluelinelaw03.NoteTruth', WHERE WHAT IT READS IS OF BULK AT MOST 1048576: true; the input reads as it did. -/
def noteTruthUptoRow : OpenClaim := { program := "ytmfanojaldiejaagreatdoor", sum := "fcccac327016e8af69e92ac3adeeaafb0567161352ae35d704a0230b83390f66", func := "blueline/bluelinelaw03.NoteTruth", spec := "noteTruth", unfollowed := true, recurses := true, named := ["blueline/note.checks", "blueline/sheet.checks"], plainKeys := false, apart := false, laid := [("blueline/sheet.checks", laid_blueline_sheet_checks), ("blueline/note.checks", laid_blueline_note_checks)], narrowed := true }
def NoteTruthUptoSaid : Prop := noteTruthUptoRow.holds Tryz.pinned (OpenSpec.upto noteTruthSpec)

/-- 'bluelinelaw03.NoteSettled', WHERE WHAT IT READS IS OF BULK AT MOST 1048576: true; the input reads as it did. -/
def noteSettledUptoRow : OpenClaim := { program := "ytmfanojaldiejaagreatdoor", sum := "fcccac327016e8af69e92ac3adeeaafb0567161352ae35d704a0230b83390f66", func := "blueline/bluelinelaw03.NoteSettled", spec := "noteSettled", unfollowed := true, recurses := true, named := ["blueline/note.checks", "blueline/sheet.checks"], plainKeys := false, apart := false, laid := [("blueline/sheet.checks", laid_blueline_sheet_checks), ("blueline/note.checks", laid_blueline_note_checks)], narrowed := true }
def NoteSettledUptoSaid : Prop := noteSettledUptoRow.holds Tryz.pinned (OpenSpec.upto noteSettledSpec)

/-- 'bluelinelaw03.NoteRule', WHERE WHAT IT READS IS OF BULK AT MOST 1048576: true; the input reads as it did. -/
def noteRuleUptoRow : OpenClaim := { program := "ytmfanojaldiejaagreatdoor", sum := "fcccac327016e8af69e92ac3adeeaafb0567161352ae35d704a0230b83390f66", func := "blueline/bluelinelaw03.NoteRule", spec := "noteRule", unfollowed := true, recurses := true, named := ["blueline/note.checks", "blueline/sheet.checks"], plainKeys := false, apart := false, laid := [("blueline/sheet.checks", laid_blueline_sheet_checks), ("blueline/note.checks", laid_blueline_note_checks)], narrowed := true }
def NoteRuleUptoSaid : Prop := noteRuleUptoRow.holds Tryz.pinned (OpenSpec.upto noteRuleSpec)

/-- 'bluelinelaw03.NoteStretched', WHERE WHAT IT READS IS OF BULK AT MOST 1048576: true; the input reads as it did. -/
def noteStretchedUptoRow : OpenClaim := { program := "ytmfanojaldiejaagreatdoor", sum := "fcccac327016e8af69e92ac3adeeaafb0567161352ae35d704a0230b83390f66", func := "blueline/bluelinelaw03.NoteStretched", spec := "noteStretched", unfollowed := true, recurses := true, named := ["blueline/note.checks", "blueline/sheet.checks"], plainKeys := false, apart := false, laid := [("blueline/sheet.checks", laid_blueline_sheet_checks), ("blueline/note.checks", laid_blueline_note_checks)], narrowed := true }
def NoteStretchedUptoSaid : Prop := noteStretchedUptoRow.holds Tryz.pinned (OpenSpec.upto noteStretchedSpec)

/-- 'bluelinelaw03.NoteWithdrawn', WHERE WHAT IT READS IS OF BULK AT MOST 1048576: true; the input reads as it did. -/
def noteWithdrawnUptoRow : OpenClaim := { program := "ytmfanojaldiejaagreatdoor", sum := "fcccac327016e8af69e92ac3adeeaafb0567161352ae35d704a0230b83390f66", func := "blueline/bluelinelaw03.NoteWithdrawn", spec := "noteWithdrawn", unfollowed := true, recurses := true, named := ["blueline/note.checks", "blueline/sheet.checks"], plainKeys := false, apart := false, laid := [("blueline/sheet.checks", laid_blueline_sheet_checks), ("blueline/note.checks", laid_blueline_note_checks)], narrowed := true }
def NoteWithdrawnUptoSaid : Prop := noteWithdrawnUptoRow.holds Tryz.pinned (OpenSpec.upto noteWithdrawnSpec)

/-- 'bluelinelaw03.NoteClashed', WHERE WHAT IT READS IS OF BULK AT MOST 1048576: true; the input reads as it did. -/
def noteClashedUptoRow : OpenClaim := { program := "ytmfanojaldiejaagreatdoor", sum := "fcccac327016e8af69e92ac3adeeaafb0567161352ae35d704a0230b83390f66", func := "blueline/bluelinelaw03.NoteClashed", spec := "noteClashed", unfollowed := true, recurses := true, named := ["blueline/note.checks", "blueline/sheet.checks"], plainKeys := false, apart := false, laid := [("blueline/sheet.checks", laid_blueline_sheet_checks), ("blueline/note.checks", laid_blueline_note_checks)], narrowed := true }
def NoteClashedUptoSaid : Prop := noteClashedUptoRow.holds Tryz.pinned (OpenSpec.upto noteClashedSpec)

/-- 'bluelinelaw03.NoteCancelled', WHERE WHAT IT READS IS OF BULK AT MOST 1048576: true; the input reads as it did. -/
def noteCancelledUptoRow : OpenClaim := { program := "ytmfanojaldiejaagreatdoor", sum := "fcccac327016e8af69e92ac3adeeaafb0567161352ae35d704a0230b83390f66", func := "blueline/bluelinelaw03.NoteCancelled", spec := "noteCancelled", unfollowed := true, recurses := true, named := ["blueline/note.checks", "blueline/sheet.checks"], plainKeys := false, apart := false, laid := [("blueline/sheet.checks", laid_blueline_sheet_checks), ("blueline/note.checks", laid_blueline_note_checks)], narrowed := true }
def NoteCancelledUptoSaid : Prop := noteCancelledUptoRow.holds Tryz.pinned (OpenSpec.upto noteCancelledSpec)

/-- 'bluelinelaw03.NoteMatters', WHERE WHAT IT READS IS OF BULK AT MOST 1048576: true; the input reads as it did. -/
def noteMattersUptoRow : OpenClaim := { program := "ytmfanojaldiejaagreatdoor", sum := "fcccac327016e8af69e92ac3adeeaafb0567161352ae35d704a0230b83390f66", func := "blueline/bluelinelaw03.NoteMatters", spec := "noteMatters", unfollowed := true, recurses := true, named := ["blueline/note.checks", "blueline/sheet.checks"], plainKeys := false, apart := false, laid := [("blueline/sheet.checks", laid_blueline_sheet_checks), ("blueline/note.checks", laid_blueline_note_checks)], narrowed := true }
def NoteMattersUptoSaid : Prop := noteMattersUptoRow.holds Tryz.pinned (OpenSpec.upto noteMattersSpec)

/-- 'bluelinelaw03.NoteTrees', WHERE WHAT IT READS IS OF BULK AT MOST 1048576: true; the input reads as it did. -/
def noteTreesUptoRow : OpenClaim := { program := "ytmfanojaldiejaagreatdoor", sum := "fcccac327016e8af69e92ac3adeeaafb0567161352ae35d704a0230b83390f66", func := "blueline/bluelinelaw03.NoteTrees", spec := "noteTrees", unfollowed := true, recurses := true, named := ["blueline/note.checks", "blueline/sheet.checks"], plainKeys := false, apart := false, laid := [("blueline/sheet.checks", laid_blueline_sheet_checks), ("blueline/note.checks", laid_blueline_note_checks)], narrowed := true }
def NoteTreesUptoSaid : Prop := noteTreesUptoRow.holds Tryz.pinned (OpenSpec.upto noteTreesSpec)

end Rows
end Go.Proofs.YtmfanojaldiejaaGreatDoor
