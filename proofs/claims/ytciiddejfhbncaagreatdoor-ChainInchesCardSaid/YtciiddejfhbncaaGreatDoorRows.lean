/-
  NARROWER THAN 'FOR EVERY INPUT', by the rows' own cells (each row's printed sentence says how): ChainChanges: laid · ChainTrue: laid · ChainNamed: laid · ChainGrade: laid · ChainFewest: laid · ChainLess: laid · ChainWider: laid · ChainJoined: laid · ChainIssues: laid · ChainInches: laid · ChainFit: laid · ChainExamples: laid.
  DERIVED. THE GIVEN ROWS OF THIS SEAT. 12 by the template 'for every input the law returns true; each argument reads behind the call as it read before'; 0 by the template 'total and deterministic' (their statements: YtciiddejfhbncaaGreatDoorTotals.lean).
  GIVEN WITH THE SEED: the statements are not yours to turn. If you find one false, say at which input.
  Laid BY PROGRAM, IN A SANDBOX (cutbox-rows.mjs): the forced cells as the released guide's own fill.sh prints them over the translation 2484067e6b8093b0… (all of the seat's roots in one cut). By AI agents, Wed Nov 11 2026. No macro, syntax, notation, axiom, sorry.
-/
import Derived.Test.YtciiddejfhbncaaGreatDoorChecked
import GoSem.Claim
import GoSem.ClaimJoined
import GoSem.ClaimMapViews
import Derived.JoinedTies
import Derived.KernelRfl
namespace Go.Proofs.YtciiddejfhbncaaGreatDoor
/- THE CELL 'sum', in the pinned program and in every row, IS THE sha256 OF THE DUMP (.gsa) THAT YtciiddejfhbncaaGreatDoorProg.lean LOADS. Nothing in Lean hashes anything: it is a label: what it is worth is what the hold of that sum in a sandbox is worth. -/
noncomputable def Tryz.pinned : Pinned := { name := "ytciiddejfhbncaagreatdoor", sum := "2484067e6b8093b0f3aa12582937076939c8c1dcc930d672a182e49c08b24e1a", checked := Tryz.checked }
namespace Rows
def none {H : Type} : Left H := { results := [], args := [] }

/- WHAT THE LISTED PACKAGE-LEVEL VARIABLES READ AS WHEN THE CALL BEGINS. Each datum BY PROGRAM (the guide's laid-datum.mjs) off the statement by which the dump's own 'gosem.cut.vars' lays the variable. In a bare row this is a premise. The card (YtciiddejfhbncaaGreatDoorCards.lean) ties it to the program's text. -/
def laid_blueline_size_units {H : Type} : DataW H := .iface "func table" (.agg [.agg [.lit (.int .i64 0), .lit (.int .i64 0), .lit (.string []), .nil], .agg [.lit (.int .i64 100), .lit (.int .i64 3), .lit (.string [109, 109]), .iface "func" (.lit (.string [98, 108, 117, 101, 108, 105, 110, 101, 47, 115, 105, 122, 101, 46, 114, 111, 117, 110, 100, 101, 100]))], .agg [.lit (.int .i64 254), .lit (.int .i64 4), .lit (.string [105, 110]), .iface "func" (.lit (.string [98, 108, 117, 101, 108, 105, 110, 101, 47, 115, 105, 122, 101, 46, 114, 111, 117, 110, 100, 101, 100]))]])
def laid_blueline_sheet_checks {H : Type} : DataW H := .iface "func table" (.agg [.agg [.iface "func" (.lit (.string [98, 108, 117, 101, 108, 105, 110, 101, 47, 115, 104, 101, 101, 116, 46, 99, 104, 101, 99, 107, 115, 36, 49]))], .agg [.iface "func" (.lit (.string [98, 108, 117, 101, 108, 105, 110, 101, 47, 115, 104, 101, 101, 116, 46, 99, 104, 101, 99, 107, 115, 36, 50]))], .agg [.iface "func" (.lit (.string [98, 108, 117, 101, 108, 105, 110, 101, 47, 115, 104, 101, 101, 116, 46, 99, 104, 101, 99, 107, 115, 36, 51]))], .agg [.iface "func" (.lit (.string [98, 108, 117, 101, 108, 105, 110, 101, 47, 115, 104, 101, 101, 116, 46, 99, 104, 101, 99, 107, 115, 36, 52]))]])
def laid_blueline_chain_checks {H : Type} : DataW H := .iface "func table" (.agg [.agg [.iface "func" (.lit (.string [98, 108, 117, 101, 108, 105, 110, 101, 47, 99, 104, 97, 105, 110, 46, 99, 104, 101, 99, 107, 115, 36, 49]))], .agg [.iface "func" (.lit (.string [98, 108, 117, 101, 108, 105, 110, 101, 47, 99, 104, 97, 105, 110, 46, 99, 104, 101, 99, 107, 115, 36, 50]))], .agg [.iface "func" (.lit (.string [98, 108, 117, 101, 108, 105, 110, 101, 47, 99, 104, 97, 105, 110, 46, 99, 104, 101, 99, 107, 115, 36, 51]))]])

/-- 'bluelinelaw06.ChainChanges': WHATEVER THE INPUT: true; the input reads as it did. -/
def chainChangesSpec : ChangeSpec := { name := "chainChanges", fn := fun _ => fun
  | [d1, d2, d3, d4] => { results := [.lit (.bool true)], args := [d1, d2, d3, d4] }
  | _ => none }
def chainChangesRow : OpenClaim := { program := "ytciiddejfhbncaagreatdoor", sum := "2484067e6b8093b0f3aa12582937076939c8c1dcc930d672a182e49c08b24e1a", func := "blueline/bluelinelaw06.ChainChanges", spec := "chainChanges", unfollowed := true, recurses := true, named := ["blueline/chain.checks", "blueline/sheet.checks", "blueline/size.units"], plainKeys := false, apart := false, laid := [("blueline/size.units", laid_blueline_size_units), ("blueline/sheet.checks", laid_blueline_sheet_checks), ("blueline/chain.checks", laid_blueline_chain_checks)] }
def ChainChangesSaid : Prop := chainChangesRow.holds Tryz.pinned (OpenSpec.ofChange chainChangesSpec)

/-- ITS FALSE NEIGHBOUR: 'it returns false'. Refute it at one input. -/
def chainChangesWrong : ChangeSpec := { name := "chainChanges", fn := fun _ => fun
  | [d1, d2, d3, d4] => { results := [.lit (.bool false)], args := [d1, d2, d3, d4] }
  | _ => none }
def ChainChangesWrongFalsely : Prop := chainChangesRow.holds Tryz.pinned (OpenSpec.ofChange chainChangesWrong)

/-- 'bluelinelaw06.ChainTrue': WHATEVER THE INPUT: true; the input reads as it did. -/
def chainTrueSpec : ChangeSpec := { name := "chainTrue", fn := fun _ => fun
  | [d1, d2] => { results := [.lit (.bool true)], args := [d1, d2] }
  | _ => none }
def chainTrueRow : OpenClaim := { program := "ytciiddejfhbncaagreatdoor", sum := "2484067e6b8093b0f3aa12582937076939c8c1dcc930d672a182e49c08b24e1a", func := "blueline/bluelinelaw06.ChainTrue", spec := "chainTrue", unfollowed := true, recurses := true, named := ["blueline/chain.checks", "blueline/sheet.checks", "blueline/size.units"], plainKeys := false, apart := false, laid := [("blueline/size.units", laid_blueline_size_units), ("blueline/sheet.checks", laid_blueline_sheet_checks), ("blueline/chain.checks", laid_blueline_chain_checks)] }
def ChainTrueSaid : Prop := chainTrueRow.holds Tryz.pinned (OpenSpec.ofChange chainTrueSpec)

/-- ITS FALSE NEIGHBOUR: 'it returns false'. Refute it at one input. -/
def chainTrueWrong : ChangeSpec := { name := "chainTrue", fn := fun _ => fun
  | [d1, d2] => { results := [.lit (.bool false)], args := [d1, d2] }
  | _ => none }
def ChainTrueWrongFalsely : Prop := chainTrueRow.holds Tryz.pinned (OpenSpec.ofChange chainTrueWrong)

/-- 'bluelinelaw06.ChainNamed': WHATEVER THE INPUT: true; the input reads as it did. -/
def chainNamedSpec : ChangeSpec := { name := "chainNamed", fn := fun _ => fun
  | [d] => { results := [.lit (.bool true)], args := [d] }
  | _ => none }
def chainNamedRow : OpenClaim := { program := "ytciiddejfhbncaagreatdoor", sum := "2484067e6b8093b0f3aa12582937076939c8c1dcc930d672a182e49c08b24e1a", func := "blueline/bluelinelaw06.ChainNamed", spec := "chainNamed", unfollowed := true, recurses := true, named := ["blueline/chain.checks", "blueline/sheet.checks", "blueline/size.units"], plainKeys := false, apart := false, laid := [("blueline/size.units", laid_blueline_size_units), ("blueline/sheet.checks", laid_blueline_sheet_checks), ("blueline/chain.checks", laid_blueline_chain_checks)] }
def ChainNamedSaid : Prop := chainNamedRow.holds Tryz.pinned (OpenSpec.ofChange chainNamedSpec)

/-- ITS FALSE NEIGHBOUR: 'it returns false'. Refute it at one input. -/
def chainNamedWrong : ChangeSpec := { name := "chainNamed", fn := fun _ => fun
  | [d] => { results := [.lit (.bool false)], args := [d] }
  | _ => none }
def ChainNamedWrongFalsely : Prop := chainNamedRow.holds Tryz.pinned (OpenSpec.ofChange chainNamedWrong)

/-- 'bluelinelaw06.ChainGrade': WHATEVER THE INPUT: true; the input reads as it did. -/
def chainGradeSpec : ChangeSpec := { name := "chainGrade", fn := fun _ => fun
  | [d] => { results := [.lit (.bool true)], args := [d] }
  | _ => none }
def chainGradeRow : OpenClaim := { program := "ytciiddejfhbncaagreatdoor", sum := "2484067e6b8093b0f3aa12582937076939c8c1dcc930d672a182e49c08b24e1a", func := "blueline/bluelinelaw06.ChainGrade", spec := "chainGrade", unfollowed := true, recurses := true, named := ["blueline/chain.checks", "blueline/sheet.checks", "blueline/size.units"], plainKeys := false, apart := false, laid := [("blueline/size.units", laid_blueline_size_units), ("blueline/sheet.checks", laid_blueline_sheet_checks), ("blueline/chain.checks", laid_blueline_chain_checks)] }
def ChainGradeSaid : Prop := chainGradeRow.holds Tryz.pinned (OpenSpec.ofChange chainGradeSpec)

/-- ITS FALSE NEIGHBOUR: 'it returns false'. Refute it at one input. -/
def chainGradeWrong : ChangeSpec := { name := "chainGrade", fn := fun _ => fun
  | [d] => { results := [.lit (.bool false)], args := [d] }
  | _ => none }
def ChainGradeWrongFalsely : Prop := chainGradeRow.holds Tryz.pinned (OpenSpec.ofChange chainGradeWrong)

/-- 'bluelinelaw06.ChainFewest': WHATEVER THE INPUT: true; the input reads as it did. -/
def chainFewestSpec : ChangeSpec := { name := "chainFewest", fn := fun _ => fun
  | [d1, d2] => { results := [.lit (.bool true)], args := [d1, d2] }
  | _ => none }
def chainFewestRow : OpenClaim := { program := "ytciiddejfhbncaagreatdoor", sum := "2484067e6b8093b0f3aa12582937076939c8c1dcc930d672a182e49c08b24e1a", func := "blueline/bluelinelaw06.ChainFewest", spec := "chainFewest", unfollowed := true, recurses := true, named := ["blueline/chain.checks", "blueline/sheet.checks", "blueline/size.units"], plainKeys := false, apart := false, laid := [("blueline/size.units", laid_blueline_size_units), ("blueline/sheet.checks", laid_blueline_sheet_checks), ("blueline/chain.checks", laid_blueline_chain_checks)] }
def ChainFewestSaid : Prop := chainFewestRow.holds Tryz.pinned (OpenSpec.ofChange chainFewestSpec)

/-- ITS FALSE NEIGHBOUR: 'it returns false'. Refute it at one input. -/
def chainFewestWrong : ChangeSpec := { name := "chainFewest", fn := fun _ => fun
  | [d1, d2] => { results := [.lit (.bool false)], args := [d1, d2] }
  | _ => none }
def ChainFewestWrongFalsely : Prop := chainFewestRow.holds Tryz.pinned (OpenSpec.ofChange chainFewestWrong)

/-- 'bluelinelaw06.ChainLess': WHATEVER THE INPUT: true; the input reads as it did. -/
def chainLessSpec : ChangeSpec := { name := "chainLess", fn := fun _ => fun
  | [d1, d2, d3, d4, d5] => { results := [.lit (.bool true)], args := [d1, d2, d3, d4, d5] }
  | _ => none }
def chainLessRow : OpenClaim := { program := "ytciiddejfhbncaagreatdoor", sum := "2484067e6b8093b0f3aa12582937076939c8c1dcc930d672a182e49c08b24e1a", func := "blueline/bluelinelaw06.ChainLess", spec := "chainLess", unfollowed := true, recurses := true, named := ["blueline/chain.checks", "blueline/sheet.checks", "blueline/size.units"], plainKeys := false, apart := false, laid := [("blueline/size.units", laid_blueline_size_units), ("blueline/sheet.checks", laid_blueline_sheet_checks), ("blueline/chain.checks", laid_blueline_chain_checks)] }
def ChainLessSaid : Prop := chainLessRow.holds Tryz.pinned (OpenSpec.ofChange chainLessSpec)

/-- ITS FALSE NEIGHBOUR: 'it returns false'. Refute it at one input. -/
def chainLessWrong : ChangeSpec := { name := "chainLess", fn := fun _ => fun
  | [d1, d2, d3, d4, d5] => { results := [.lit (.bool false)], args := [d1, d2, d3, d4, d5] }
  | _ => none }
def ChainLessWrongFalsely : Prop := chainLessRow.holds Tryz.pinned (OpenSpec.ofChange chainLessWrong)

/-- 'bluelinelaw06.ChainWider': WHATEVER THE INPUT: true; the input reads as it did. -/
def chainWiderSpec : ChangeSpec := { name := "chainWider", fn := fun _ => fun
  | [d1, d2, d3, d4] => { results := [.lit (.bool true)], args := [d1, d2, d3, d4] }
  | _ => none }
def chainWiderRow : OpenClaim := { program := "ytciiddejfhbncaagreatdoor", sum := "2484067e6b8093b0f3aa12582937076939c8c1dcc930d672a182e49c08b24e1a", func := "blueline/bluelinelaw06.ChainWider", spec := "chainWider", unfollowed := true, recurses := true, named := ["blueline/chain.checks", "blueline/sheet.checks", "blueline/size.units"], plainKeys := false, apart := false, laid := [("blueline/size.units", laid_blueline_size_units), ("blueline/sheet.checks", laid_blueline_sheet_checks), ("blueline/chain.checks", laid_blueline_chain_checks)] }
def ChainWiderSaid : Prop := chainWiderRow.holds Tryz.pinned (OpenSpec.ofChange chainWiderSpec)

/-- ITS FALSE NEIGHBOUR: 'it returns false'. Refute it at one input. -/
def chainWiderWrong : ChangeSpec := { name := "chainWider", fn := fun _ => fun
  | [d1, d2, d3, d4] => { results := [.lit (.bool false)], args := [d1, d2, d3, d4] }
  | _ => none }
def ChainWiderWrongFalsely : Prop := chainWiderRow.holds Tryz.pinned (OpenSpec.ofChange chainWiderWrong)

/-- 'bluelinelaw06.ChainJoined': WHATEVER THE INPUT: true; the input reads as it did. -/
def chainJoinedSpec : ChangeSpec := { name := "chainJoined", fn := fun _ => fun
  | [d1, d2, d3] => { results := [.lit (.bool true)], args := [d1, d2, d3] }
  | _ => none }
def chainJoinedRow : OpenClaim := { program := "ytciiddejfhbncaagreatdoor", sum := "2484067e6b8093b0f3aa12582937076939c8c1dcc930d672a182e49c08b24e1a", func := "blueline/bluelinelaw06.ChainJoined", spec := "chainJoined", unfollowed := true, recurses := true, named := ["blueline/chain.checks", "blueline/sheet.checks", "blueline/size.units"], plainKeys := false, apart := false, laid := [("blueline/size.units", laid_blueline_size_units), ("blueline/sheet.checks", laid_blueline_sheet_checks), ("blueline/chain.checks", laid_blueline_chain_checks)] }
def ChainJoinedSaid : Prop := chainJoinedRow.holds Tryz.pinned (OpenSpec.ofChange chainJoinedSpec)

/-- ITS FALSE NEIGHBOUR: 'it returns false'. Refute it at one input. -/
def chainJoinedWrong : ChangeSpec := { name := "chainJoined", fn := fun _ => fun
  | [d1, d2, d3] => { results := [.lit (.bool false)], args := [d1, d2, d3] }
  | _ => none }
def ChainJoinedWrongFalsely : Prop := chainJoinedRow.holds Tryz.pinned (OpenSpec.ofChange chainJoinedWrong)

/-- 'bluelinelaw06.ChainIssues': WHATEVER THE INPUT: true; the input reads as it did. -/
def chainIssuesSpec : ChangeSpec := { name := "chainIssues", fn := fun _ => fun
  | [d1, d2, d3, d4] => { results := [.lit (.bool true)], args := [d1, d2, d3, d4] }
  | _ => none }
def chainIssuesRow : OpenClaim := { program := "ytciiddejfhbncaagreatdoor", sum := "2484067e6b8093b0f3aa12582937076939c8c1dcc930d672a182e49c08b24e1a", func := "blueline/bluelinelaw06.ChainIssues", spec := "chainIssues", unfollowed := true, recurses := true, named := ["blueline/chain.checks", "blueline/sheet.checks", "blueline/size.units"], plainKeys := false, apart := false, laid := [("blueline/size.units", laid_blueline_size_units), ("blueline/sheet.checks", laid_blueline_sheet_checks), ("blueline/chain.checks", laid_blueline_chain_checks)] }
def ChainIssuesSaid : Prop := chainIssuesRow.holds Tryz.pinned (OpenSpec.ofChange chainIssuesSpec)

/-- ITS FALSE NEIGHBOUR: 'it returns false'. Refute it at one input. -/
def chainIssuesWrong : ChangeSpec := { name := "chainIssues", fn := fun _ => fun
  | [d1, d2, d3, d4] => { results := [.lit (.bool false)], args := [d1, d2, d3, d4] }
  | _ => none }
def ChainIssuesWrongFalsely : Prop := chainIssuesRow.holds Tryz.pinned (OpenSpec.ofChange chainIssuesWrong)

/-- 'bluelinelaw06.ChainInches': WHATEVER THE INPUT: true; the input reads as it did. -/
def chainInchesSpec : ChangeSpec := { name := "chainInches", fn := fun _ => fun
  | [d1, d2] => { results := [.lit (.bool true)], args := [d1, d2] }
  | _ => none }
def chainInchesRow : OpenClaim := { program := "ytciiddejfhbncaagreatdoor", sum := "2484067e6b8093b0f3aa12582937076939c8c1dcc930d672a182e49c08b24e1a", func := "blueline/bluelinelaw06.ChainInches", spec := "chainInches", unfollowed := true, recurses := true, named := ["blueline/chain.checks", "blueline/sheet.checks", "blueline/size.units"], plainKeys := false, apart := false, laid := [("blueline/size.units", laid_blueline_size_units), ("blueline/sheet.checks", laid_blueline_sheet_checks), ("blueline/chain.checks", laid_blueline_chain_checks)] }
def ChainInchesSaid : Prop := chainInchesRow.holds Tryz.pinned (OpenSpec.ofChange chainInchesSpec)

/-- ITS FALSE NEIGHBOUR: 'it returns false'. Refute it at one input. -/
def chainInchesWrong : ChangeSpec := { name := "chainInches", fn := fun _ => fun
  | [d1, d2] => { results := [.lit (.bool false)], args := [d1, d2] }
  | _ => none }
def ChainInchesWrongFalsely : Prop := chainInchesRow.holds Tryz.pinned (OpenSpec.ofChange chainInchesWrong)

/-- 'bluelinelaw06.ChainFit': WHATEVER THE INPUT: true; the input reads as it did. -/
def chainFitSpec : ChangeSpec := { name := "chainFit", fn := fun _ => fun
  | [d1, d2] => { results := [.lit (.bool true)], args := [d1, d2] }
  | _ => none }
def chainFitRow : OpenClaim := { program := "ytciiddejfhbncaagreatdoor", sum := "2484067e6b8093b0f3aa12582937076939c8c1dcc930d672a182e49c08b24e1a", func := "blueline/bluelinelaw06.ChainFit", spec := "chainFit", unfollowed := true, recurses := true, named := ["blueline/chain.checks", "blueline/sheet.checks", "blueline/size.units"], plainKeys := false, apart := false, laid := [("blueline/size.units", laid_blueline_size_units), ("blueline/sheet.checks", laid_blueline_sheet_checks), ("blueline/chain.checks", laid_blueline_chain_checks)] }
def ChainFitSaid : Prop := chainFitRow.holds Tryz.pinned (OpenSpec.ofChange chainFitSpec)

/-- ITS FALSE NEIGHBOUR: 'it returns false'. Refute it at one input. -/
def chainFitWrong : ChangeSpec := { name := "chainFit", fn := fun _ => fun
  | [d1, d2] => { results := [.lit (.bool false)], args := [d1, d2] }
  | _ => none }
def ChainFitWrongFalsely : Prop := chainFitRow.holds Tryz.pinned (OpenSpec.ofChange chainFitWrong)

/-- 'bluelinelaw06.ChainExamples': WHATEVER THE INPUT: true; the input reads as it did. -/
def chainExamplesSpec : ChangeSpec := { name := "chainExamples", fn := fun _ => fun
  | [] => { results := [.lit (.bool true)], args := [] }
  | _ => none }
def chainExamplesRow : OpenClaim := { program := "ytciiddejfhbncaagreatdoor", sum := "2484067e6b8093b0f3aa12582937076939c8c1dcc930d672a182e49c08b24e1a", func := "blueline/bluelinelaw06.ChainExamples", spec := "chainExamples", unfollowed := true, recurses := true, named := ["blueline/chain.checks", "blueline/sheet.checks", "blueline/size.units"], plainKeys := false, apart := false, laid := [("blueline/size.units", laid_blueline_size_units), ("blueline/sheet.checks", laid_blueline_sheet_checks), ("blueline/chain.checks", laid_blueline_chain_checks)] }
def ChainExamplesSaid : Prop := chainExamplesRow.holds Tryz.pinned (OpenSpec.ofChange chainExamplesSpec)

/-- ITS FALSE NEIGHBOUR: 'it returns false'. Refute it at one input. -/
def chainExamplesWrong : ChangeSpec := { name := "chainExamples", fn := fun _ => fun
  | [] => { results := [.lit (.bool false)], args := [] }
  | _ => none }
def ChainExamplesWrongFalsely : Prop := chainExamplesRow.holds Tryz.pinned (OpenSpec.ofChange chainExamplesWrong)

/- THE SECOND FORM. 'bulk': how many values and letters a reading holds, each counted each time it is reached (what is shared counts as often as it is met; a slice's spare places count too). A statement '..UptoSaid' is the law's where the arguments, and the package variables that the reading takes, are together of bulk at most 1048576: NARROWER than '..Said'. Prove '..Said' where nothing that the law and all that it calls make is longer than what came in: it says more and counts as full. Else prove '..UptoSaid'. A law counts once. -/
mutual
def uptoBulk {H : Type} : DataW H → Nat
  | .lit (.string bytes) => bytes.length + 1
  | .lit _ => 1
  | .nil => 1
  | .ptr d => uptoBulk d + 1
  | .slice elems spare => uptoBulkAll elems + uptoBulkAll spare + 1
  | .agg parts => uptoBulkAll parts + 1
  | .iface _ d => uptoBulk d + 1
  | .map entries => uptoBulkEntries entries + 1
  | .held _ => 1
def uptoBulkAll {H : Type} : List (DataW H) → Nat
  | [] => 0
  | d :: r => uptoBulk d + uptoBulkAll r
def uptoBulkEntries {H : Type} : List (Lit × DataW H) → Nat
  | [] => 0
  | x :: r => uptoBulkEntry x + uptoBulkEntries r
def uptoBulkEntry {H : Type} : Lit × DataW H → Nat
  | (.string bytes, d) => bytes.length + uptoBulk d + 1
  | (_, d) => uptoBulk d + 1
 end
def uptoSmall : (H : Type) → List (DataW H) → Bool := fun _ ds => decide (uptoBulkAll ds ≤ 1048576)
def OpenSpec.upto (s : _root_.Go.ChangeSpec) : _root_.Go.OpenSpec := { _root_.Go.OpenSpec.ofChange s with cond := some uptoSmall }

/-- 'bluelinelaw06.ChainChanges', WHERE WHAT IT READS IS OF BULK AT MOST 1048576: true; the input reads as it did. -/
def chainChangesUptoRow : OpenClaim := { program := "ytciiddejfhbncaagreatdoor", sum := "2484067e6b8093b0f3aa12582937076939c8c1dcc930d672a182e49c08b24e1a", func := "blueline/bluelinelaw06.ChainChanges", spec := "chainChanges", unfollowed := true, recurses := true, named := ["blueline/chain.checks", "blueline/sheet.checks", "blueline/size.units"], plainKeys := false, apart := false, laid := [("blueline/size.units", laid_blueline_size_units), ("blueline/sheet.checks", laid_blueline_sheet_checks), ("blueline/chain.checks", laid_blueline_chain_checks)], narrowed := true }
def ChainChangesUptoSaid : Prop := chainChangesUptoRow.holds Tryz.pinned (OpenSpec.upto chainChangesSpec)

/-- 'bluelinelaw06.ChainTrue', WHERE WHAT IT READS IS OF BULK AT MOST 1048576: true; the input reads as it did. -/
def chainTrueUptoRow : OpenClaim := { program := "ytciiddejfhbncaagreatdoor", sum := "2484067e6b8093b0f3aa12582937076939c8c1dcc930d672a182e49c08b24e1a", func := "blueline/bluelinelaw06.ChainTrue", spec := "chainTrue", unfollowed := true, recurses := true, named := ["blueline/chain.checks", "blueline/sheet.checks", "blueline/size.units"], plainKeys := false, apart := false, laid := [("blueline/size.units", laid_blueline_size_units), ("blueline/sheet.checks", laid_blueline_sheet_checks), ("blueline/chain.checks", laid_blueline_chain_checks)], narrowed := true }
def ChainTrueUptoSaid : Prop := chainTrueUptoRow.holds Tryz.pinned (OpenSpec.upto chainTrueSpec)

/-- 'bluelinelaw06.ChainNamed', WHERE WHAT IT READS IS OF BULK AT MOST 1048576: true; the input reads as it did. -/
def chainNamedUptoRow : OpenClaim := { program := "ytciiddejfhbncaagreatdoor", sum := "2484067e6b8093b0f3aa12582937076939c8c1dcc930d672a182e49c08b24e1a", func := "blueline/bluelinelaw06.ChainNamed", spec := "chainNamed", unfollowed := true, recurses := true, named := ["blueline/chain.checks", "blueline/sheet.checks", "blueline/size.units"], plainKeys := false, apart := false, laid := [("blueline/size.units", laid_blueline_size_units), ("blueline/sheet.checks", laid_blueline_sheet_checks), ("blueline/chain.checks", laid_blueline_chain_checks)], narrowed := true }
def ChainNamedUptoSaid : Prop := chainNamedUptoRow.holds Tryz.pinned (OpenSpec.upto chainNamedSpec)

/-- 'bluelinelaw06.ChainGrade', WHERE WHAT IT READS IS OF BULK AT MOST 1048576: true; the input reads as it did. -/
def chainGradeUptoRow : OpenClaim := { program := "ytciiddejfhbncaagreatdoor", sum := "2484067e6b8093b0f3aa12582937076939c8c1dcc930d672a182e49c08b24e1a", func := "blueline/bluelinelaw06.ChainGrade", spec := "chainGrade", unfollowed := true, recurses := true, named := ["blueline/chain.checks", "blueline/sheet.checks", "blueline/size.units"], plainKeys := false, apart := false, laid := [("blueline/size.units", laid_blueline_size_units), ("blueline/sheet.checks", laid_blueline_sheet_checks), ("blueline/chain.checks", laid_blueline_chain_checks)], narrowed := true }
def ChainGradeUptoSaid : Prop := chainGradeUptoRow.holds Tryz.pinned (OpenSpec.upto chainGradeSpec)

/-- 'bluelinelaw06.ChainFewest', WHERE WHAT IT READS IS OF BULK AT MOST 1048576: true; the input reads as it did. -/
def chainFewestUptoRow : OpenClaim := { program := "ytciiddejfhbncaagreatdoor", sum := "2484067e6b8093b0f3aa12582937076939c8c1dcc930d672a182e49c08b24e1a", func := "blueline/bluelinelaw06.ChainFewest", spec := "chainFewest", unfollowed := true, recurses := true, named := ["blueline/chain.checks", "blueline/sheet.checks", "blueline/size.units"], plainKeys := false, apart := false, laid := [("blueline/size.units", laid_blueline_size_units), ("blueline/sheet.checks", laid_blueline_sheet_checks), ("blueline/chain.checks", laid_blueline_chain_checks)], narrowed := true }
def ChainFewestUptoSaid : Prop := chainFewestUptoRow.holds Tryz.pinned (OpenSpec.upto chainFewestSpec)

/-- 'bluelinelaw06.ChainLess', WHERE WHAT IT READS IS OF BULK AT MOST 1048576: true; the input reads as it did. -/
def chainLessUptoRow : OpenClaim := { program := "ytciiddejfhbncaagreatdoor", sum := "2484067e6b8093b0f3aa12582937076939c8c1dcc930d672a182e49c08b24e1a", func := "blueline/bluelinelaw06.ChainLess", spec := "chainLess", unfollowed := true, recurses := true, named := ["blueline/chain.checks", "blueline/sheet.checks", "blueline/size.units"], plainKeys := false, apart := false, laid := [("blueline/size.units", laid_blueline_size_units), ("blueline/sheet.checks", laid_blueline_sheet_checks), ("blueline/chain.checks", laid_blueline_chain_checks)], narrowed := true }
def ChainLessUptoSaid : Prop := chainLessUptoRow.holds Tryz.pinned (OpenSpec.upto chainLessSpec)

/-- 'bluelinelaw06.ChainWider', WHERE WHAT IT READS IS OF BULK AT MOST 1048576: true; the input reads as it did. -/
def chainWiderUptoRow : OpenClaim := { program := "ytciiddejfhbncaagreatdoor", sum := "2484067e6b8093b0f3aa12582937076939c8c1dcc930d672a182e49c08b24e1a", func := "blueline/bluelinelaw06.ChainWider", spec := "chainWider", unfollowed := true, recurses := true, named := ["blueline/chain.checks", "blueline/sheet.checks", "blueline/size.units"], plainKeys := false, apart := false, laid := [("blueline/size.units", laid_blueline_size_units), ("blueline/sheet.checks", laid_blueline_sheet_checks), ("blueline/chain.checks", laid_blueline_chain_checks)], narrowed := true }
def ChainWiderUptoSaid : Prop := chainWiderUptoRow.holds Tryz.pinned (OpenSpec.upto chainWiderSpec)

/-- 'bluelinelaw06.ChainJoined', WHERE WHAT IT READS IS OF BULK AT MOST 1048576: true; the input reads as it did. -/
def chainJoinedUptoRow : OpenClaim := { program := "ytciiddejfhbncaagreatdoor", sum := "2484067e6b8093b0f3aa12582937076939c8c1dcc930d672a182e49c08b24e1a", func := "blueline/bluelinelaw06.ChainJoined", spec := "chainJoined", unfollowed := true, recurses := true, named := ["blueline/chain.checks", "blueline/sheet.checks", "blueline/size.units"], plainKeys := false, apart := false, laid := [("blueline/size.units", laid_blueline_size_units), ("blueline/sheet.checks", laid_blueline_sheet_checks), ("blueline/chain.checks", laid_blueline_chain_checks)], narrowed := true }
def ChainJoinedUptoSaid : Prop := chainJoinedUptoRow.holds Tryz.pinned (OpenSpec.upto chainJoinedSpec)

/-- 'bluelinelaw06.ChainIssues', WHERE WHAT IT READS IS OF BULK AT MOST 1048576: true; the input reads as it did. -/
def chainIssuesUptoRow : OpenClaim := { program := "ytciiddejfhbncaagreatdoor", sum := "2484067e6b8093b0f3aa12582937076939c8c1dcc930d672a182e49c08b24e1a", func := "blueline/bluelinelaw06.ChainIssues", spec := "chainIssues", unfollowed := true, recurses := true, named := ["blueline/chain.checks", "blueline/sheet.checks", "blueline/size.units"], plainKeys := false, apart := false, laid := [("blueline/size.units", laid_blueline_size_units), ("blueline/sheet.checks", laid_blueline_sheet_checks), ("blueline/chain.checks", laid_blueline_chain_checks)], narrowed := true }
def ChainIssuesUptoSaid : Prop := chainIssuesUptoRow.holds Tryz.pinned (OpenSpec.upto chainIssuesSpec)

/-- 'bluelinelaw06.ChainInches', WHERE WHAT IT READS IS OF BULK AT MOST 1048576: true; the input reads as it did. -/
def chainInchesUptoRow : OpenClaim := { program := "ytciiddejfhbncaagreatdoor", sum := "2484067e6b8093b0f3aa12582937076939c8c1dcc930d672a182e49c08b24e1a", func := "blueline/bluelinelaw06.ChainInches", spec := "chainInches", unfollowed := true, recurses := true, named := ["blueline/chain.checks", "blueline/sheet.checks", "blueline/size.units"], plainKeys := false, apart := false, laid := [("blueline/size.units", laid_blueline_size_units), ("blueline/sheet.checks", laid_blueline_sheet_checks), ("blueline/chain.checks", laid_blueline_chain_checks)], narrowed := true }
def ChainInchesUptoSaid : Prop := chainInchesUptoRow.holds Tryz.pinned (OpenSpec.upto chainInchesSpec)

/-- 'bluelinelaw06.ChainFit', WHERE WHAT IT READS IS OF BULK AT MOST 1048576: true; the input reads as it did. -/
def chainFitUptoRow : OpenClaim := { program := "ytciiddejfhbncaagreatdoor", sum := "2484067e6b8093b0f3aa12582937076939c8c1dcc930d672a182e49c08b24e1a", func := "blueline/bluelinelaw06.ChainFit", spec := "chainFit", unfollowed := true, recurses := true, named := ["blueline/chain.checks", "blueline/sheet.checks", "blueline/size.units"], plainKeys := false, apart := false, laid := [("blueline/size.units", laid_blueline_size_units), ("blueline/sheet.checks", laid_blueline_sheet_checks), ("blueline/chain.checks", laid_blueline_chain_checks)], narrowed := true }
def ChainFitUptoSaid : Prop := chainFitUptoRow.holds Tryz.pinned (OpenSpec.upto chainFitSpec)

/-- 'bluelinelaw06.ChainExamples', WHERE WHAT IT READS IS OF BULK AT MOST 1048576: true; the input reads as it did. -/
def chainExamplesUptoRow : OpenClaim := { program := "ytciiddejfhbncaagreatdoor", sum := "2484067e6b8093b0f3aa12582937076939c8c1dcc930d672a182e49c08b24e1a", func := "blueline/bluelinelaw06.ChainExamples", spec := "chainExamples", unfollowed := true, recurses := true, named := ["blueline/chain.checks", "blueline/sheet.checks", "blueline/size.units"], plainKeys := false, apart := false, laid := [("blueline/size.units", laid_blueline_size_units), ("blueline/sheet.checks", laid_blueline_sheet_checks), ("blueline/chain.checks", laid_blueline_chain_checks)], narrowed := true }
def ChainExamplesUptoSaid : Prop := chainExamplesUptoRow.holds Tryz.pinned (OpenSpec.upto chainExamplesSpec)

end Rows
end Go.Proofs.YtciiddejfhbncaaGreatDoor
