/-
  NARROWER THAN 'FOR EVERY INPUT', by the rows' own cells (each row's printed sentence says how): ChainTells: laid · NoteForce: laid · NoteRuns: laid · NoteClashes: laid.
  DERIVED. THE GIVEN ROWS OF THIS SEAT. 4 by the template 'for every input the law returns true; each argument reads behind the call as it read before'; 0 by the template 'total and deterministic' (their statements: YtmonmfpdckdoiaaDoorTotals.lean).
  GIVEN WITH THE SEED: the statements are not yours to turn. If you find one false, say at which input.
  Laid BY PROGRAM, IN A SANDBOX (cutbox-rows.mjs): the forced cells as the released guide's own fill.sh prints them over the translation d9095cb7a499e390… (all of the seat's roots in one cut). By AI agents, Wed Nov 11 2026. No macro, syntax, notation, axiom, sorry.
-/
import Derived.Test.YtmonmfpdckdoiaaDoorChecked
import GoSem.Claim
import GoSem.ClaimJoined
import GoSem.ClaimMapViews
import Derived.JoinedTies
import Derived.KernelRfl
namespace Go.Proofs.YtmonmfpdckdoiaaDoor
/- THE CELL 'sum', in the pinned program and in every row, IS THE sha256 OF THE DUMP (.gsa) THAT YtmonmfpdckdoiaaDoorProg.lean LOADS. Nothing in Lean hashes anything: it is a label: what it is worth is what the hold of that sum in a sandbox is worth. -/
noncomputable def Tryd.pinned : Pinned := { name := "ytmonmfpdckdoiaadoor", sum := "d9095cb7a499e3903d49858b4de1f94362f322ed4fa589c39856194acc593275", checked := Tryd.checked }
namespace Rows
def none {H : Type} : Left H := { results := [], args := [] }

/- WHAT THE LISTED PACKAGE-LEVEL VARIABLES READ AS WHEN THE CALL BEGINS. Each datum BY PROGRAM (the guide's laid-datum.mjs) off the statement by which the dump's own 'gosem.cut.vars' lays the variable. In a bare row this is a premise. The card (YtmonmfpdckdoiaaDoorCards.lean) ties it to the program's text. -/
def laid_blueline_sheet_checks {H : Type} : DataW H := .iface "func table" (.agg [.agg [.iface "func" (.lit (.string [98, 108, 117, 101, 108, 105, 110, 101, 47, 115, 104, 101, 101, 116, 46, 99, 104, 101, 99, 107, 115, 36, 49]))], .agg [.iface "func" (.lit (.string [98, 108, 117, 101, 108, 105, 110, 101, 47, 115, 104, 101, 101, 116, 46, 99, 104, 101, 99, 107, 115, 36, 50]))], .agg [.iface "func" (.lit (.string [98, 108, 117, 101, 108, 105, 110, 101, 47, 115, 104, 101, 101, 116, 46, 99, 104, 101, 99, 107, 115, 36, 51]))], .agg [.iface "func" (.lit (.string [98, 108, 117, 101, 108, 105, 110, 101, 47, 115, 104, 101, 101, 116, 46, 99, 104, 101, 99, 107, 115, 36, 52]))]])
def laid_blueline_chain_checks {H : Type} : DataW H := .iface "func table" (.agg [.agg [.iface "func" (.lit (.string [98, 108, 117, 101, 108, 105, 110, 101, 47, 99, 104, 97, 105, 110, 46, 99, 104, 101, 99, 107, 115, 36, 49]))], .agg [.iface "func" (.lit (.string [98, 108, 117, 101, 108, 105, 110, 101, 47, 99, 104, 97, 105, 110, 46, 99, 104, 101, 99, 107, 115, 36, 50]))], .agg [.iface "func" (.lit (.string [98, 108, 117, 101, 108, 105, 110, 101, 47, 99, 104, 97, 105, 110, 46, 99, 104, 101, 99, 107, 115, 36, 51]))]])
def laid_blueline_note_checks {H : Type} : DataW H := .iface "func table" (.agg [.agg [.iface "func" (.lit (.string [98, 108, 117, 101, 108, 105, 110, 101, 47, 110, 111, 116, 101, 46, 99, 104, 101, 99, 107, 115, 36, 49]))], .agg [.iface "func" (.lit (.string [98, 108, 117, 101, 108, 105, 110, 101, 47, 110, 111, 116, 101, 46, 99, 104, 101, 99, 107, 115, 36, 50]))], .agg [.iface "func" (.lit (.string [98, 108, 117, 101, 108, 105, 110, 101, 47, 110, 111, 116, 101, 46, 99, 104, 101, 99, 107, 115, 36, 51]))], .agg [.iface "func" (.lit (.string [98, 108, 117, 101, 108, 105, 110, 101, 47, 110, 111, 116, 101, 46, 99, 104, 101, 99, 107, 115, 36, 52]))], .agg [.iface "func" (.lit (.string [98, 108, 117, 101, 108, 105, 110, 101, 47, 110, 111, 116, 101, 46, 99, 104, 101, 99, 107, 115, 36, 53]))], .agg [.iface "func" (.lit (.string [98, 108, 117, 101, 108, 105, 110, 101, 47, 110, 111, 116, 101, 46, 99, 104, 101, 99, 107, 115, 36, 54]))], .agg [.iface "func" (.lit (.string [98, 108, 117, 101, 108, 105, 110, 101, 47, 110, 111, 116, 101, 46, 99, 104, 101, 99, 107, 115, 36, 55]))], .agg [.iface "func" (.lit (.string [98, 108, 117, 101, 108, 105, 110, 101, 47, 110, 111, 116, 101, 46, 99, 104, 101, 99, 107, 115, 36, 56]))]])

/-- 'bluelinelaw06.ChainTells': WHATEVER THE INPUT: true; the input reads as it did. -/
def chainTellsSpec : ChangeSpec := { name := "chainTells", fn := fun _ => fun
  | [d1, d2] => { results := [.lit (.bool true)], args := [d1, d2] }
  | _ => none }
def chainTellsRow : OpenClaim := { program := "ytmonmfpdckdoiaadoor", sum := "d9095cb7a499e3903d49858b4de1f94362f322ed4fa589c39856194acc593275", func := "blueline/bluelinelaw06.ChainTells", spec := "chainTells", unfollowed := true, recurses := true, named := ["blueline/chain.checks", "blueline/sheet.checks"], plainKeys := false, apart := false, laid := [("blueline/sheet.checks", laid_blueline_sheet_checks), ("blueline/chain.checks", laid_blueline_chain_checks)] }
def ChainTellsSaid : Prop := chainTellsRow.holds Tryd.pinned (OpenSpec.ofChange chainTellsSpec)

/-- ITS FALSE NEIGHBOUR: 'it returns false'. Refute it at one input. -/
def chainTellsWrong : ChangeSpec := { name := "chainTells", fn := fun _ => fun
  | [d1, d2] => { results := [.lit (.bool false)], args := [d1, d2] }
  | _ => none }
def ChainTellsWrongFalsely : Prop := chainTellsRow.holds Tryd.pinned (OpenSpec.ofChange chainTellsWrong)

/-- 'bluelinelaw03.NoteForce': WHATEVER THE INPUT: true; the input reads as it did. -/
def noteForceSpec : ChangeSpec := { name := "noteForce", fn := fun _ => fun
  | [d1, d2, d3, d4] => { results := [.lit (.bool true)], args := [d1, d2, d3, d4] }
  | _ => none }
def noteForceRow : OpenClaim := { program := "ytmonmfpdckdoiaadoor", sum := "d9095cb7a499e3903d49858b4de1f94362f322ed4fa589c39856194acc593275", func := "blueline/bluelinelaw03.NoteForce", spec := "noteForce", unfollowed := true, recurses := true, named := ["blueline/note.checks", "blueline/sheet.checks"], plainKeys := false, apart := false, laid := [("blueline/sheet.checks", laid_blueline_sheet_checks), ("blueline/note.checks", laid_blueline_note_checks)] }
def NoteForceSaid : Prop := noteForceRow.holds Tryd.pinned (OpenSpec.ofChange noteForceSpec)

/-- ITS FALSE NEIGHBOUR: 'it returns false'. Refute it at one input. -/
def noteForceWrong : ChangeSpec := { name := "noteForce", fn := fun _ => fun
  | [d1, d2, d3, d4] => { results := [.lit (.bool false)], args := [d1, d2, d3, d4] }
  | _ => none }
def NoteForceWrongFalsely : Prop := noteForceRow.holds Tryd.pinned (OpenSpec.ofChange noteForceWrong)

/-- 'bluelinelaw03.NoteRuns': WHATEVER THE INPUT: true; the input reads as it did. -/
def noteRunsSpec : ChangeSpec := { name := "noteRuns", fn := fun _ => fun
  | [d1, d2, d3] => { results := [.lit (.bool true)], args := [d1, d2, d3] }
  | _ => none }
def noteRunsRow : OpenClaim := { program := "ytmonmfpdckdoiaadoor", sum := "d9095cb7a499e3903d49858b4de1f94362f322ed4fa589c39856194acc593275", func := "blueline/bluelinelaw03.NoteRuns", spec := "noteRuns", unfollowed := true, recurses := true, named := ["blueline/note.checks", "blueline/sheet.checks"], plainKeys := false, apart := false, laid := [("blueline/sheet.checks", laid_blueline_sheet_checks), ("blueline/note.checks", laid_blueline_note_checks)] }
def NoteRunsSaid : Prop := noteRunsRow.holds Tryd.pinned (OpenSpec.ofChange noteRunsSpec)

/-- ITS FALSE NEIGHBOUR: 'it returns false'. Refute it at one input. -/
def noteRunsWrong : ChangeSpec := { name := "noteRuns", fn := fun _ => fun
  | [d1, d2, d3] => { results := [.lit (.bool false)], args := [d1, d2, d3] }
  | _ => none }
def NoteRunsWrongFalsely : Prop := noteRunsRow.holds Tryd.pinned (OpenSpec.ofChange noteRunsWrong)

/-- 'bluelinelaw03.NoteClashes': WHATEVER THE INPUT: true; the input reads as it did. -/
def noteClashesSpec : ChangeSpec := { name := "noteClashes", fn := fun _ => fun
  | [d1, d2] => { results := [.lit (.bool true)], args := [d1, d2] }
  | _ => none }
def noteClashesRow : OpenClaim := { program := "ytmonmfpdckdoiaadoor", sum := "d9095cb7a499e3903d49858b4de1f94362f322ed4fa589c39856194acc593275", func := "blueline/bluelinelaw03.NoteClashes", spec := "noteClashes", unfollowed := true, recurses := true, named := ["blueline/note.checks", "blueline/sheet.checks"], plainKeys := false, apart := false, laid := [("blueline/sheet.checks", laid_blueline_sheet_checks), ("blueline/note.checks", laid_blueline_note_checks)] }
def NoteClashesSaid : Prop := noteClashesRow.holds Tryd.pinned (OpenSpec.ofChange noteClashesSpec)

/-- ITS FALSE NEIGHBOUR: 'it returns false'. Refute it at one input. -/
def noteClashesWrong : ChangeSpec := { name := "noteClashes", fn := fun _ => fun
  | [d1, d2] => { results := [.lit (.bool false)], args := [d1, d2] }
  | _ => none }
def NoteClashesWrongFalsely : Prop := noteClashesRow.holds Tryd.pinned (OpenSpec.ofChange noteClashesWrong)

/- THE SECOND FORM. 'bulk': how many values and letters a reading holds, each counted each time it is reached (what is shared counts as often as it is met; a slice's spare places count too). A statement '..UptoSaid' is the law's where the arguments, and the package variables that the reading takes, are together of bulk at most 1048576: NARROWER than '..Said'. Prove '..Said' where nothing that the law and all that it calls make is longer than what came in: it says more and counts as full. Else prove '..UptoSaid'. A law counts once. -/
mutual
def uptoBulk {H : Type} : DataW H → Nat
  | .lit (.string bytes) => bytes.length + 1
  | .lit _ => 1
  | .nil => 1
  | .ptr d => uptoBulk d + 1
  | .slice elems spare => uptoBulkAll elems + uptoBulkAll spare + 1
  | .agg parts => uptoBulkAll parts + 1
  | .iface _ d => uptoBulk d + 1
  | .map entries => uptoBulkEntries entries + 1
  | .held _ => 1
def uptoBulkAll {H : Type} : List (DataW H) → Nat
  | [] => 0
  | d :: r => uptoBulk d + uptoBulkAll r
def uptoBulkEntries {H : Type} : List (Lit × DataW H) → Nat
  | [] => 0
  | x :: r => uptoBulkEntry x + uptoBulkEntries r
def uptoBulkEntry {H : Type} : Lit × DataW H → Nat
  | (.string bytes, d) => bytes.length + uptoBulk d + 1
  | (_, d) => uptoBulk d + 1
 end
def uptoSmall : (H : Type) → List (DataW H) → Bool := fun _ ds => decide (uptoBulkAll ds ≤ 1048576)
def OpenSpec.upto (s : _root_.Go.ChangeSpec) : _root_.Go.OpenSpec := { _root_.Go.OpenSpec.ofChange s with cond := some uptoSmall }

/-- 'bluelinelaw06.ChainTells', WHERE WHAT IT READS IS OF BULK AT MOST 1048576: true; the input reads as it did. -/
def chainTellsUptoRow : OpenClaim := { program := "ytmonmfpdckdoiaadoor", sum := "d9095cb7a499e3903d49858b4de1f94362f322ed4fa589c39856194acc593275", func := "blueline/bluelinelaw06.ChainTells", spec := "chainTells", unfollowed := true, recurses := true, named := ["blueline/chain.checks", "blueline/sheet.checks"], plainKeys := false, apart := false, laid := [("blueline/sheet.checks", laid_blueline_sheet_checks), ("blueline/chain.checks", laid_blueline_chain_checks)], narrowed := true }
def ChainTellsUptoSaid : Prop := chainTellsUptoRow.holds Tryd.pinned (OpenSpec.upto chainTellsSpec)

/-- 'bluelinelaw03.NoteForce', WHERE WHAT IT READS IS OF BULK AT MOST 1048576: true; the input reads as it did. -/
def noteForceUptoRow : OpenClaim := { program := "ytmonmfpdckdoiaadoor", sum := "d9095cb7a499e3903d49858b4de1f94362f322ed4fa589c39856194acc593275", func := "blueline/bluelinelaw03.NoteForce", spec := "noteForce", unfollowed := true, recurses := true, named := ["blueline/note.checks", "blueline/sheet.checks"], plainKeys := false, apart := false, laid := [("blueline/sheet.checks", laid_blueline_sheet_checks), ("blueline/note.checks", laid_blueline_note_checks)], narrowed := true }
def NoteForceUptoSaid : Prop := noteForceUptoRow.holds Tryd.pinned (OpenSpec.upto noteForceSpec)

/-- 'bluelinelaw03.NoteRuns', WHERE WHAT IT READS IS OF BULK AT MOST 1048576: true; the input reads as it did. -/
def noteRunsUptoRow : OpenClaim := { program := "ytmonmfpdckdoiaadoor", sum := "d9095cb7a499e3903d49858b4de1f94362f322ed4fa589c39856194acc593275", func := "blueline/bluelinelaw03.NoteRuns", spec := "noteRuns", unfollowed := true, recurses := true, named := ["blueline/note.checks", "blueline/sheet.checks"], plainKeys := false, apart := false, laid := [("blueline/sheet.checks", laid_blueline_sheet_checks), ("blueline/note.checks", laid_blueline_note_checks)], narrowed := true }
def NoteRunsUptoSaid : Prop := noteRunsUptoRow.holds Tryd.pinned (OpenSpec.upto noteRunsSpec)

/-- 'bluelinelaw03.NoteClashes', WHERE WHAT IT READS IS OF BULK AT MOST 1048576: true; the input reads as it did. -/
def noteClashesUptoRow : OpenClaim := { program := "ytmonmfpdckdoiaadoor", sum := "d9095cb7a499e3903d49858b4de1f94362f322ed4fa589c39856194acc593275", func := "blueline/bluelinelaw03.NoteClashes", spec := "noteClashes", unfollowed := true, recurses := true, named := ["blueline/note.checks", "blueline/sheet.checks"], plainKeys := false, apart := false, laid := [("blueline/sheet.checks", laid_blueline_sheet_checks), ("blueline/note.checks", laid_blueline_note_checks)], narrowed := true }
def NoteClashesUptoSaid : Prop := noteClashesUptoRow.holds Tryd.pinned (OpenSpec.upto noteClashesSpec)

end Rows
end Go.Proofs.YtmonmfpdckdoiaaDoor
