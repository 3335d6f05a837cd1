/-
  NARROWER THAN 'FOR EVERY INPUT', by the rows' own cells (each row's printed sentence says how): BlameTrue: laid · BlameFewest: laid · BlameCounts: laid · BlameMeasured: laid · BlameExamples: laid.
  DERIVED. THE GIVEN ROWS OF THIS SEAT. 5 by the template 'for every input the law returns true; each argument reads behind the call as it read before'; 0 by the template 'total and deterministic' (their statements: YtlmlkkoapahmjaaGreatDoorTotals.lean).
  GIVEN WITH THE SEED: the statements are not yours to turn. If you find one false, say at which input.
  Laid BY PROGRAM, IN A SANDBOX (cutbox-rows.mjs): the forced cells as the released guide's own fill.sh prints them over the translation 4082b02c56dca5f5… (all of the seat's roots in one cut). By AI agents, Wed Nov 11 2026. No macro, syntax, notation, axiom, sorry.
-/
import Derived.Test.YtlmlkkoapahmjaaGreatDoorChecked
import GoSem.Claim
import GoSem.ClaimJoined
import GoSem.ClaimMapViews
import Derived.JoinedTies
import Derived.KernelRfl
namespace Go.Proofs.YtlmlkkoapahmjaaGreatDoor
/- THE CELL 'sum', in the pinned program and in every row, IS THE sha256 OF THE DUMP (.gsa) THAT YtlmlkkoapahmjaaGreatDoorProg.lean LOADS. Nothing in Lean hashes anything: it is a label: what it is worth is what the hold of that sum in a sandbox is worth. -/
noncomputable def Tryz.pinned : Pinned := { name := "ytlmlkkoapahmjaagreatdoor", sum := "4082b02c56dca5f5fc4be00bf6071f9ad2e257b66852723273c3719872eb8d72", checked := Tryz.checked }
namespace Rows
def none {H : Type} : Left H := { results := [], args := [] }

/- WHAT THE LISTED PACKAGE-LEVEL VARIABLES READ AS WHEN THE CALL BEGINS. Each datum BY PROGRAM (the guide's laid-datum.mjs) off the statement by which the dump's own 'gosem.cut.vars' lays the variable. In a bare row this is a premise. The card (YtlmlkkoapahmjaaGreatDoorCards.lean) ties it to the program's text. -/
def laid_blueline_sheet_checks {H : Type} : DataW H := .iface "func table" (.agg [.agg [.iface "func" (.lit (.string [98, 108, 117, 101, 108, 105, 110, 101, 47, 115, 104, 101, 101, 116, 46, 99, 104, 101, 99, 107, 115, 36, 49]))], .agg [.iface "func" (.lit (.string [98, 108, 117, 101, 108, 105, 110, 101, 47, 115, 104, 101, 101, 116, 46, 99, 104, 101, 99, 107, 115, 36, 50]))], .agg [.iface "func" (.lit (.string [98, 108, 117, 101, 108, 105, 110, 101, 47, 115, 104, 101, 101, 116, 46, 99, 104, 101, 99, 107, 115, 36, 51]))], .agg [.iface "func" (.lit (.string [98, 108, 117, 101, 108, 105, 110, 101, 47, 115, 104, 101, 101, 116, 46, 99, 104, 101, 99, 107, 115, 36, 52]))]])
def laid_blueline_chain_checks {H : Type} : DataW H := .iface "func table" (.agg [.agg [.iface "func" (.lit (.string [98, 108, 117, 101, 108, 105, 110, 101, 47, 99, 104, 97, 105, 110, 46, 99, 104, 101, 99, 107, 115, 36, 49]))], .agg [.iface "func" (.lit (.string [98, 108, 117, 101, 108, 105, 110, 101, 47, 99, 104, 97, 105, 110, 46, 99, 104, 101, 99, 107, 115, 36, 50]))], .agg [.iface "func" (.lit (.string [98, 108, 117, 101, 108, 105, 110, 101, 47, 99, 104, 97, 105, 110, 46, 99, 104, 101, 99, 107, 115, 36, 51]))]])
def laid_blueline_note_checks {H : Type} : DataW H := .iface "func table" (.agg [.agg [.iface "func" (.lit (.string [98, 108, 117, 101, 108, 105, 110, 101, 47, 110, 111, 116, 101, 46, 99, 104, 101, 99, 107, 115, 36, 49]))], .agg [.iface "func" (.lit (.string [98, 108, 117, 101, 108, 105, 110, 101, 47, 110, 111, 116, 101, 46, 99, 104, 101, 99, 107, 115, 36, 50]))], .agg [.iface "func" (.lit (.string [98, 108, 117, 101, 108, 105, 110, 101, 47, 110, 111, 116, 101, 46, 99, 104, 101, 99, 107, 115, 36, 51]))], .agg [.iface "func" (.lit (.string [98, 108, 117, 101, 108, 105, 110, 101, 47, 110, 111, 116, 101, 46, 99, 104, 101, 99, 107, 115, 36, 52]))], .agg [.iface "func" (.lit (.string [98, 108, 117, 101, 108, 105, 110, 101, 47, 110, 111, 116, 101, 46, 99, 104, 101, 99, 107, 115, 36, 53]))], .agg [.iface "func" (.lit (.string [98, 108, 117, 101, 108, 105, 110, 101, 47, 110, 111, 116, 101, 46, 99, 104, 101, 99, 107, 115, 36, 54]))], .agg [.iface "func" (.lit (.string [98, 108, 117, 101, 108, 105, 110, 101, 47, 110, 111, 116, 101, 46, 99, 104, 101, 99, 107, 115, 36, 55]))], .agg [.iface "func" (.lit (.string [98, 108, 117, 101, 108, 105, 110, 101, 47, 110, 111, 116, 101, 46, 99, 104, 101, 99, 107, 115, 36, 56]))]])
def laid_blueline_recall_checks {H : Type} : DataW H := .iface "func table" (.agg [.agg [.iface "func" (.lit (.string [98, 108, 117, 101, 108, 105, 110, 101, 47, 114, 101, 99, 97, 108, 108, 46, 99, 104, 101, 99, 107, 115, 36, 49]))], .agg [.iface "func" (.lit (.string [98, 108, 117, 101, 108, 105, 110, 101, 47, 114, 101, 99, 97, 108, 108, 46, 99, 104, 101, 99, 107, 115, 36, 50]))], .agg [.iface "func" (.lit (.string [98, 108, 117, 101, 108, 105, 110, 101, 47, 114, 101, 99, 97, 108, 108, 46, 99, 104, 101, 99, 107, 115, 36, 51]))], .agg [.iface "func" (.lit (.string [98, 108, 117, 101, 108, 105, 110, 101, 47, 114, 101, 99, 97, 108, 108, 46, 99, 104, 101, 99, 107, 115, 36, 52]))], .agg [.iface "func" (.lit (.string [98, 108, 117, 101, 108, 105, 110, 101, 47, 114, 101, 99, 97, 108, 108, 46, 99, 104, 101, 99, 107, 115, 36, 53]))]])
def laid_blueline_blame_fine {H : Type} : DataW H := .agg [.lit (.bool false), .lit (.bool false)]
def laid_blueline_blame_old {H : Type} : DataW H := .agg [.lit (.bool true), .lit (.bool false)]
def laid_blueline_blame_hand {H : Type} : DataW H := .agg [.lit (.bool false), .lit (.bool true)]
def laid_blueline_blame_kinds {H : Type} : DataW H := .iface "func table" (.agg [.agg [.nil], .agg [.iface "func" (.lit (.string [98, 108, 117, 101, 108, 105, 110, 101, 47, 98, 108, 97, 109, 101, 46, 107, 105, 110, 100, 115, 36, 49]))], .agg [.iface "func" (.lit (.string [98, 108, 117, 101, 108, 105, 110, 101, 47, 98, 108, 97, 109, 101, 46, 107, 105, 110, 100, 115, 36, 50]))], .agg [.iface "func" (.lit (.string [98, 108, 117, 101, 108, 105, 110, 101, 47, 98, 108, 97, 109, 101, 46, 107, 105, 110, 100, 115, 36, 51]))]])

/-- 'bluelinelaw10.BlameTrue': WHATEVER THE INPUT: true; the input reads as it did. -/
def blameTrueSpec : ChangeSpec := { name := "blameTrue", fn := fun _ => fun
  | [d1, d2, d3] => { results := [.lit (.bool true)], args := [d1, d2, d3] }
  | _ => none }
def blameTrueRow : OpenClaim := { program := "ytlmlkkoapahmjaagreatdoor", sum := "4082b02c56dca5f5fc4be00bf6071f9ad2e257b66852723273c3719872eb8d72", func := "blueline/bluelinelaw10.BlameTrue", spec := "blameTrue", unfollowed := true, recurses := true, named := ["blueline/note.checks", "blueline/sheet.checks", "blueline/recall.checks", "blueline/chain.checks", "blueline/blame.kinds", "blueline/blame.old", "blueline/blame.hand", "blueline/blame.fine"], plainKeys := false, apart := false, laid := [("blueline/sheet.checks", laid_blueline_sheet_checks), ("blueline/chain.checks", laid_blueline_chain_checks), ("blueline/note.checks", laid_blueline_note_checks), ("blueline/recall.checks", laid_blueline_recall_checks), ("blueline/blame.fine", laid_blueline_blame_fine), ("blueline/blame.old", laid_blueline_blame_old), ("blueline/blame.hand", laid_blueline_blame_hand), ("blueline/blame.kinds", laid_blueline_blame_kinds)] }
def BlameTrueSaid : Prop := blameTrueRow.holds Tryz.pinned (OpenSpec.ofChange blameTrueSpec)

/-- ITS FALSE NEIGHBOUR: 'it returns false'. Refute it at one input. -/
def blameTrueWrong : ChangeSpec := { name := "blameTrue", fn := fun _ => fun
  | [d1, d2, d3] => { results := [.lit (.bool false)], args := [d1, d2, d3] }
  | _ => none }
def BlameTrueWrongFalsely : Prop := blameTrueRow.holds Tryz.pinned (OpenSpec.ofChange blameTrueWrong)

/-- 'bluelinelaw10.BlameFewest': WHATEVER THE INPUT: true; the input reads as it did. -/
def blameFewestSpec : ChangeSpec := { name := "blameFewest", fn := fun _ => fun
  | [d1, d2, d3] => { results := [.lit (.bool true)], args := [d1, d2, d3] }
  | _ => none }
def blameFewestRow : OpenClaim := { program := "ytlmlkkoapahmjaagreatdoor", sum := "4082b02c56dca5f5fc4be00bf6071f9ad2e257b66852723273c3719872eb8d72", func := "blueline/bluelinelaw10.BlameFewest", spec := "blameFewest", unfollowed := true, recurses := true, named := ["blueline/note.checks", "blueline/sheet.checks", "blueline/recall.checks", "blueline/chain.checks", "blueline/blame.kinds", "blueline/blame.old", "blueline/blame.hand", "blueline/blame.fine"], plainKeys := false, apart := false, laid := [("blueline/sheet.checks", laid_blueline_sheet_checks), ("blueline/chain.checks", laid_blueline_chain_checks), ("blueline/note.checks", laid_blueline_note_checks), ("blueline/recall.checks", laid_blueline_recall_checks), ("blueline/blame.fine", laid_blueline_blame_fine), ("blueline/blame.old", laid_blueline_blame_old), ("blueline/blame.hand", laid_blueline_blame_hand), ("blueline/blame.kinds", laid_blueline_blame_kinds)] }
def BlameFewestSaid : Prop := blameFewestRow.holds Tryz.pinned (OpenSpec.ofChange blameFewestSpec)

/-- ITS FALSE NEIGHBOUR: 'it returns false'. Refute it at one input. -/
def blameFewestWrong : ChangeSpec := { name := "blameFewest", fn := fun _ => fun
  | [d1, d2, d3] => { results := [.lit (.bool false)], args := [d1, d2, d3] }
  | _ => none }
def BlameFewestWrongFalsely : Prop := blameFewestRow.holds Tryz.pinned (OpenSpec.ofChange blameFewestWrong)

/-- 'bluelinelaw10.BlameCounts': WHATEVER THE INPUT: true; the input reads as it did. -/
def blameCountsSpec : ChangeSpec := { name := "blameCounts", fn := fun _ => fun
  | [d] => { results := [.lit (.bool true)], args := [d] }
  | _ => none }
def blameCountsRow : OpenClaim := { program := "ytlmlkkoapahmjaagreatdoor", sum := "4082b02c56dca5f5fc4be00bf6071f9ad2e257b66852723273c3719872eb8d72", func := "blueline/bluelinelaw10.BlameCounts", spec := "blameCounts", unfollowed := true, recurses := true, named := ["blueline/note.checks", "blueline/sheet.checks", "blueline/recall.checks", "blueline/chain.checks", "blueline/blame.old", "blueline/blame.hand", "blueline/blame.fine"], plainKeys := false, apart := false, laid := [("blueline/sheet.checks", laid_blueline_sheet_checks), ("blueline/chain.checks", laid_blueline_chain_checks), ("blueline/note.checks", laid_blueline_note_checks), ("blueline/recall.checks", laid_blueline_recall_checks), ("blueline/blame.fine", laid_blueline_blame_fine), ("blueline/blame.old", laid_blueline_blame_old), ("blueline/blame.hand", laid_blueline_blame_hand)] }
def BlameCountsSaid : Prop := blameCountsRow.holds Tryz.pinned (OpenSpec.ofChange blameCountsSpec)

/-- ITS FALSE NEIGHBOUR: 'it returns false'. Refute it at one input. -/
def blameCountsWrong : ChangeSpec := { name := "blameCounts", fn := fun _ => fun
  | [d] => { results := [.lit (.bool false)], args := [d] }
  | _ => none }
def BlameCountsWrongFalsely : Prop := blameCountsRow.holds Tryz.pinned (OpenSpec.ofChange blameCountsWrong)

/-- 'bluelinelaw10.BlameMeasured': WHATEVER THE INPUT: true; the input reads as it did. -/
def blameMeasuredSpec : ChangeSpec := { name := "blameMeasured", fn := fun _ => fun
  | [d1, d2, d3] => { results := [.lit (.bool true)], args := [d1, d2, d3] }
  | _ => none }
def blameMeasuredRow : OpenClaim := { program := "ytlmlkkoapahmjaagreatdoor", sum := "4082b02c56dca5f5fc4be00bf6071f9ad2e257b66852723273c3719872eb8d72", func := "blueline/bluelinelaw10.BlameMeasured", spec := "blameMeasured", unfollowed := true, recurses := true, named := ["blueline/note.checks", "blueline/sheet.checks", "blueline/recall.checks", "blueline/chain.checks", "blueline/blame.kinds", "blueline/blame.old", "blueline/blame.hand", "blueline/blame.fine"], plainKeys := false, apart := false, laid := [("blueline/sheet.checks", laid_blueline_sheet_checks), ("blueline/chain.checks", laid_blueline_chain_checks), ("blueline/note.checks", laid_blueline_note_checks), ("blueline/recall.checks", laid_blueline_recall_checks), ("blueline/blame.fine", laid_blueline_blame_fine), ("blueline/blame.old", laid_blueline_blame_old), ("blueline/blame.hand", laid_blueline_blame_hand), ("blueline/blame.kinds", laid_blueline_blame_kinds)] }
def BlameMeasuredSaid : Prop := blameMeasuredRow.holds Tryz.pinned (OpenSpec.ofChange blameMeasuredSpec)

/-- ITS FALSE NEIGHBOUR: 'it returns false'. Refute it at one input. -/
def blameMeasuredWrong : ChangeSpec := { name := "blameMeasured", fn := fun _ => fun
  | [d1, d2, d3] => { results := [.lit (.bool false)], args := [d1, d2, d3] }
  | _ => none }
def BlameMeasuredWrongFalsely : Prop := blameMeasuredRow.holds Tryz.pinned (OpenSpec.ofChange blameMeasuredWrong)

/-- 'bluelinelaw10.BlameExamples': WHATEVER THE INPUT: true; the input reads as it did. -/
def blameExamplesSpec : ChangeSpec := { name := "blameExamples", fn := fun _ => fun
  | [] => { results := [.lit (.bool true)], args := [] }
  | _ => none }
def blameExamplesRow : OpenClaim := { program := "ytlmlkkoapahmjaagreatdoor", sum := "4082b02c56dca5f5fc4be00bf6071f9ad2e257b66852723273c3719872eb8d72", func := "blueline/bluelinelaw10.BlameExamples", spec := "blameExamples", unfollowed := true, recurses := true, named := ["blueline/note.checks", "blueline/sheet.checks", "blueline/recall.checks", "blueline/chain.checks", "blueline/blame.kinds", "blueline/blame.old", "blueline/blame.hand", "blueline/blame.fine"], plainKeys := false, apart := false, laid := [("blueline/sheet.checks", laid_blueline_sheet_checks), ("blueline/chain.checks", laid_blueline_chain_checks), ("blueline/note.checks", laid_blueline_note_checks), ("blueline/recall.checks", laid_blueline_recall_checks), ("blueline/blame.fine", laid_blueline_blame_fine), ("blueline/blame.old", laid_blueline_blame_old), ("blueline/blame.hand", laid_blueline_blame_hand), ("blueline/blame.kinds", laid_blueline_blame_kinds)] }
def BlameExamplesSaid : Prop := blameExamplesRow.holds Tryz.pinned (OpenSpec.ofChange blameExamplesSpec)

/-- ITS FALSE NEIGHBOUR: 'it returns false'. Refute it at one input. -/
def blameExamplesWrong : ChangeSpec := { name := "blameExamples", fn := fun _ => fun
  | [] => { results := [.lit (.bool false)], args := [] }
  | _ => none }
def BlameExamplesWrongFalsely : Prop := blameExamplesRow.holds Tryz.pinned (OpenSpec.ofChange blameExamplesWrong)

/- THE SECOND FORM. 'bulk': how many values and letters a reading holds, each counted each time it is reached (what is shared counts as often as it is met; a slice's spare places count too). A statement '..UptoSaid' is the law's where the arguments, and the package variables that the reading takes, are together of bulk at most 1048576: NARROWER than '..Said'. Prove '..Said' where nothing that the law and all that it calls make is longer than what came in: it says more and counts as full. Else prove '..UptoSaid'. A law counts once. -/
mutual
def uptoBulk {H : Type} : DataW H → Nat
  | .lit (.string bytes) => bytes.length + 1
  | .lit _ => 1
  | .nil => 1
  | .ptr d => uptoBulk d + 1
  | .slice elems spare => uptoBulkAll elems + uptoBulkAll spare + 1
  | .agg parts => uptoBulkAll parts + 1
  | .iface _ d => uptoBulk d + 1
  | .map entries => uptoBulkEntries entries + 1
  | .held _ => 1
def uptoBulkAll {H : Type} : List (DataW H) → Nat
  | [] => 0
  | d :: r => uptoBulk d + uptoBulkAll r
def uptoBulkEntries {H : Type} : List (Lit × DataW H) → Nat
  | [] => 0
  | x :: r => uptoBulkEntry x + uptoBulkEntries r
def uptoBulkEntry {H : Type} : Lit × DataW H → Nat
  | (.string bytes, d) => bytes.length + uptoBulk d + 1
  | (_, d) => uptoBulk d + 1
 end
def uptoSmall : (H : Type) → List (DataW H) → Bool := fun _ ds => decide (uptoBulkAll ds ≤ 1048576)
def OpenSpec.upto (s : _root_.Go.ChangeSpec) : _root_.Go.OpenSpec := { _root_.Go.OpenSpec.ofChange s with cond := some uptoSmall }

/-- 'bluelinelaw10.BlameTrue', WHERE WHAT IT READS IS OF BULK AT MOST 1048576: true; the input reads as it did. -/
def blameTrueUptoRow : OpenClaim := { program := "ytlmlkkoapahmjaagreatdoor", sum := "4082b02c56dca5f5fc4be00bf6071f9ad2e257b66852723273c3719872eb8d72", func := "blueline/bluelinelaw10.BlameTrue", spec := "blameTrue", unfollowed := true, recurses := true, named := ["blueline/note.checks", "blueline/sheet.checks", "blueline/recall.checks", "blueline/chain.checks", "blueline/blame.kinds", "blueline/blame.old", "blueline/blame.hand", "blueline/blame.fine"], plainKeys := false, apart := false, laid := [("blueline/sheet.checks", laid_blueline_sheet_checks), ("blueline/chain.checks", laid_blueline_chain_checks), ("blueline/note.checks", laid_blueline_note_checks), ("blueline/recall.checks", laid_blueline_recall_checks), ("blueline/blame.fine", laid_blueline_blame_fine), ("blueline/blame.old", laid_blueline_blame_old), ("blueline/blame.hand", laid_blueline_blame_hand), ("blueline/blame.kinds", laid_blueline_blame_kinds)], narrowed := true }
def BlameTrueUptoSaid : Prop := blameTrueUptoRow.holds Tryz.pinned (OpenSpec.upto blameTrueSpec)

/-- 'bluelinelaw10.BlameFewest', WHERE WHAT IT READS IS OF BULK AT MOST 1048576: true; the input reads as it did. -/
def blameFewestUptoRow : OpenClaim := { program := "ytlmlkkoapahmjaagreatdoor", sum := "4082b02c56dca5f5fc4be00bf6071f9ad2e257b66852723273c3719872eb8d72", func := "blueline/bluelinelaw10.BlameFewest", spec := "blameFewest", unfollowed := true, recurses := true, named := ["blueline/note.checks", "blueline/sheet.checks", "blueline/recall.checks", "blueline/chain.checks", "blueline/blame.kinds", "blueline/blame.old", "blueline/blame.hand", "blueline/blame.fine"], plainKeys := false, apart := false, laid := [("blueline/sheet.checks", laid_blueline_sheet_checks), ("blueline/chain.checks", laid_blueline_chain_checks), ("blueline/note.checks", laid_blueline_note_checks), ("blueline/recall.checks", laid_blueline_recall_checks), ("blueline/blame.fine", laid_blueline_blame_fine), ("blueline/blame.old", laid_blueline_blame_old), ("blueline/blame.hand", laid_blueline_blame_hand), ("blueline/blame.kinds", laid_blueline_blame_kinds)], narrowed := true }
def BlameFewestUptoSaid : Prop := blameFewestUptoRow.holds Tryz.pinned (OpenSpec.upto blameFewestSpec)

/-- 'bluelinelaw10.BlameCounts', WHERE WHAT IT READS IS OF BULK AT MOST 1048576: true; the input reads as it did. -/
def blameCountsUptoRow : OpenClaim := { program := "ytlmlkkoapahmjaagreatdoor", sum := "4082b02c56dca5f5fc4be00bf6071f9ad2e257b66852723273c3719872eb8d72", func := "blueline/bluelinelaw10.BlameCounts", spec := "blameCounts", unfollowed := true, recurses := true, named := ["blueline/note.checks", "blueline/sheet.checks", "blueline/recall.checks", "blueline/chain.checks", "blueline/blame.old", "blueline/blame.hand", "blueline/blame.fine"], plainKeys := false, apart := false, laid := [("blueline/sheet.checks", laid_blueline_sheet_checks), ("blueline/chain.checks", laid_blueline_chain_checks), ("blueline/note.checks", laid_blueline_note_checks), ("blueline/recall.checks", laid_blueline_recall_checks), ("blueline/blame.fine", laid_blueline_blame_fine), ("blueline/blame.old", laid_blueline_blame_old), ("blueline/blame.hand", laid_blueline_blame_hand)], narrowed := true }
def BlameCountsUptoSaid : Prop := blameCountsUptoRow.holds Tryz.pinned (OpenSpec.upto blameCountsSpec)

/-- 'bluelinelaw10.BlameMeasured', WHERE WHAT IT READS IS OF BULK AT MOST 1048576: true; the input reads as it did. -/
def blameMeasuredUptoRow : OpenClaim := { program := "ytlmlkkoapahmjaagreatdoor", sum := "4082b02c56dca5f5fc4be00bf6071f9ad2e257b66852723273c3719872eb8d72", func := "blueline/bluelinelaw10.BlameMeasured", spec := "blameMeasured", unfollowed := true, recurses := true, named := ["blueline/note.checks", "blueline/sheet.checks", "blueline/recall.checks", "blueline/chain.checks", "blueline/blame.kinds", "blueline/blame.old", "blueline/blame.hand", "blueline/blame.fine"], plainKeys := false, apart := false, laid := [("blueline/sheet.checks", laid_blueline_sheet_checks), ("blueline/chain.checks", laid_blueline_chain_checks), ("blueline/note.checks", laid_blueline_note_checks), ("blueline/recall.checks", laid_blueline_recall_checks), ("blueline/blame.fine", laid_blueline_blame_fine), ("blueline/blame.old", laid_blueline_blame_old), ("blueline/blame.hand", laid_blueline_blame_hand), ("blueline/blame.kinds", laid_blueline_blame_kinds)], narrowed := true }
def BlameMeasuredUptoSaid : Prop := blameMeasuredUptoRow.holds Tryz.pinned (OpenSpec.upto blameMeasuredSpec)

/-- 'bluelinelaw10.BlameExamples', WHERE WHAT IT READS IS OF BULK AT MOST 1048576: true; the input reads as it did. -/
def blameExamplesUptoRow : OpenClaim := { program := "ytlmlkkoapahmjaagreatdoor", sum := "4082b02c56dca5f5fc4be00bf6071f9ad2e257b66852723273c3719872eb8d72", func := "blueline/bluelinelaw10.BlameExamples", spec := "blameExamples", unfollowed := true, recurses := true, named := ["blueline/note.checks", "blueline/sheet.checks", "blueline/recall.checks", "blueline/chain.checks", "blueline/blame.kinds", "blueline/blame.old", "blueline/blame.hand", "blueline/blame.fine"], plainKeys := false, apart := false, laid := [("blueline/sheet.checks", laid_blueline_sheet_checks), ("blueline/chain.checks", laid_blueline_chain_checks), ("blueline/note.checks", laid_blueline_note_checks), ("blueline/recall.checks", laid_blueline_recall_checks), ("blueline/blame.fine", laid_blueline_blame_fine), ("blueline/blame.old", laid_blueline_blame_old), ("blueline/blame.hand", laid_blueline_blame_hand), ("blueline/blame.kinds", laid_blueline_blame_kinds)], narrowed := true }
def BlameExamplesUptoSaid : Prop := blameExamplesUptoRow.holds Tryz.pinned (OpenSpec.upto blameExamplesSpec)

end Rows
end Go.Proofs.YtlmlkkoapahmjaaGreatDoor
