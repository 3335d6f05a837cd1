/-
  NARROWER THAN 'FOR EVERY INPUT', by the rows' own cells (each row's printed sentence says how): ChainIssues: laid · ChainChanges: laid.
  DERIVED. THE GIVEN ROWS OF THIS SEAT. 2 by the template 'for every input the law returns true; each argument reads behind the call as it read before'; 0 by the template 'total and deterministic' (their statements: YtpcoahkgkgmmlaaGreatDoorTotals.lean).
  GIVEN WITH THE SEED: the statements are not yours to turn. If you find one false, say at which input.
  Laid BY PROGRAM, IN A SANDBOX (cutbox-rows.mjs): the forced cells as the released guide's own fill.sh prints them over the translation bdaa00277071db6b… (all of the seat's roots in one cut). By AI agents, Wed Nov 11 2026. No macro, syntax, notation, axiom, sorry.
-/
import Derived.Test.YtpcoahkgkgmmlaaGreatDoorChecked
import GoSem.Claim
import GoSem.ClaimJoined
import GoSem.ClaimMapViews
import Derived.JoinedTies
import Derived.KernelRfl
namespace Go.Proofs.YtpcoahkgkgmmlaaGreatDoor
/- THE CELL 'sum', in the pinned program and in every row, IS THE sha256 OF THE DUMP (.gsa) THAT YtpcoahkgkgmmlaaGreatDoorProg.lean LOADS. Nothing in Lean hashes anything: it is a label: what it is worth is what the hold of that sum in a sandbox is worth. -/
noncomputable def Tryz.pinned : Pinned := { name := "ytpcoahkgkgmmlaagreatdoor", sum := "bdaa00277071db6b018df2ebabfb28c52b22314c3a081bb1771507d8469565d5", checked := Tryz.checked }
namespace Rows
def none {H : Type} : Left H := { results := [], args := [] }

/- WHAT THE LISTED PACKAGE-LEVEL VARIABLES READ AS WHEN THE CALL BEGINS. Each datum BY PROGRAM (the guide's laid-datum.mjs) off the statement by which the dump's own 'gosem.cut.vars' lays the variable. In a bare row this is a premise. The card (YtpcoahkgkgmmlaaGreatDoorCards.lean) ties it to the program's text. -/
def laid_blueline_size_units {H : Type} : DataW H := .iface "func table" (.agg [.agg [.lit (.int .i64 0), .lit (.int .i64 0), .lit (.string []), .nil], .agg [.lit (.int .i64 100), .lit (.int .i64 3), .lit (.string [109, 109]), .iface "func" (.lit (.string [98, 108, 117, 101, 108, 105, 110, 101, 47, 115, 105, 122, 101, 46, 114, 111, 117, 110, 100, 101, 100]))], .agg [.lit (.int .i64 254), .lit (.int .i64 4), .lit (.string [105, 110]), .iface "func" (.lit (.string [98, 108, 117, 101, 108, 105, 110, 101, 47, 115, 105, 122, 101, 46, 114, 111, 117, 110, 100, 101, 100]))]])
def laid_blueline_sheet_checks {H : Type} : DataW H := .iface "func table" (.agg [.agg [.iface "func" (.lit (.string [98, 108, 117, 101, 108, 105, 110, 101, 47, 115, 104, 101, 101, 116, 46, 99, 104, 101, 99, 107, 115, 36, 49]))], .agg [.iface "func" (.lit (.string [98, 108, 117, 101, 108, 105, 110, 101, 47, 115, 104, 101, 101, 116, 46, 99, 104, 101, 99, 107, 115, 36, 50]))], .agg [.iface "func" (.lit (.string [98, 108, 117, 101, 108, 105, 110, 101, 47, 115, 104, 101, 101, 116, 46, 99, 104, 101, 99, 107, 115, 36, 51]))], .agg [.iface "func" (.lit (.string [98, 108, 117, 101, 108, 105, 110, 101, 47, 115, 104, 101, 101, 116, 46, 99, 104, 101, 99, 107, 115, 36, 52]))]])
def laid_blueline_chain_checks {H : Type} : DataW H := .iface "func table" (.agg [.agg [.iface "func" (.lit (.string [98, 108, 117, 101, 108, 105, 110, 101, 47, 99, 104, 97, 105, 110, 46, 99, 104, 101, 99, 107, 115, 36, 49]))], .agg [.iface "func" (.lit (.string [98, 108, 117, 101, 108, 105, 110, 101, 47, 99, 104, 97, 105, 110, 46, 99, 104, 101, 99, 107, 115, 36, 50]))], .agg [.iface "func" (.lit (.string [98, 108, 117, 101, 108, 105, 110, 101, 47, 99, 104, 97, 105, 110, 46, 99, 104, 101, 99, 107, 115, 36, 51]))]])

/-- 'bluelinelaw06.ChainIssues': WHATEVER THE INPUT: true; the input reads as it did. -/
def chainIssuesSpec : ChangeSpec := { name := "chainIssues", fn := fun _ => fun
  | [d1, d2, d3, d4] => { results := [.lit (.bool true)], args := [d1, d2, d3, d4] }
  | _ => none }
def chainIssuesRow : OpenClaim := { program := "ytpcoahkgkgmmlaagreatdoor", sum := "bdaa00277071db6b018df2ebabfb28c52b22314c3a081bb1771507d8469565d5", func := "blueline/bluelinelaw06.ChainIssues", spec := "chainIssues", unfollowed := true, recurses := true, named := ["blueline/chain.checks", "blueline/sheet.checks", "blueline/size.units"], plainKeys := false, apart := false, laid := [("blueline/size.units", laid_blueline_size_units), ("blueline/sheet.checks", laid_blueline_sheet_checks), ("blueline/chain.checks", laid_blueline_chain_checks)] }
def ChainIssuesSaid : Prop := chainIssuesRow.holds Tryz.pinned (OpenSpec.ofChange chainIssuesSpec)

/-- ITS FALSE NEIGHBOUR: 'it returns false'. Refute it at one input. -/
def chainIssuesWrong : ChangeSpec := { name := "chainIssues", fn := fun _ => fun
  | [d1, d2, d3, d4] => { results := [.lit (.bool false)], args := [d1, d2, d3, d4] }
  | _ => none }
def ChainIssuesWrongFalsely : Prop := chainIssuesRow.holds Tryz.pinned (OpenSpec.ofChange chainIssuesWrong)

/-- 'bluelinelaw06.ChainChanges': WHATEVER THE INPUT: true; the input reads as it did. -/
def chainChangesSpec : ChangeSpec := { name := "chainChanges", fn := fun _ => fun
  | [d1, d2, d3, d4] => { results := [.lit (.bool true)], args := [d1, d2, d3, d4] }
  | _ => none }
def chainChangesRow : OpenClaim := { program := "ytpcoahkgkgmmlaagreatdoor", sum := "bdaa00277071db6b018df2ebabfb28c52b22314c3a081bb1771507d8469565d5", func := "blueline/bluelinelaw06.ChainChanges", spec := "chainChanges", unfollowed := true, recurses := true, named := ["blueline/chain.checks", "blueline/sheet.checks", "blueline/size.units"], plainKeys := false, apart := false, laid := [("blueline/size.units", laid_blueline_size_units), ("blueline/sheet.checks", laid_blueline_sheet_checks), ("blueline/chain.checks", laid_blueline_chain_checks)] }
def ChainChangesSaid : Prop := chainChangesRow.holds Tryz.pinned (OpenSpec.ofChange chainChangesSpec)

/-- ITS FALSE NEIGHBOUR: 'it returns false'. Refute it at one input. -/
def chainChangesWrong : ChangeSpec := { name := "chainChanges", fn := fun _ => fun
  | [d1, d2, d3, d4] => { results := [.lit (.bool false)], args := [d1, d2, d3, d4] }
  | _ => none }
def ChainChangesWrongFalsely : Prop := chainChangesRow.holds Tryz.pinned (OpenSpec.ofChange chainChangesWrong)

/- THE SECOND FORM. 'bulk': how many values and letters a reading holds, each counted each time it is reached (what is shared counts as often as it is met; a slice's spare places count too). A statement '..UptoSaid' is the law's where the arguments, and the package variables that the reading takes, are together of bulk at most 1048576: NARROWER than '..Said'. Prove '..Said' where nothing that the law and all that it calls make is longer than what came in: it says more and counts as full. Else prove '..UptoSaid'. A law counts once. -/
mutual
def uptoBulk {H : Type} : DataW H → Nat
  | .lit (.string bytes) => bytes.length + 1
  | .lit _ => 1
  | .nil => 1
  | .ptr d => uptoBulk d + 1
  | .slice elems spare => uptoBulkAll elems + uptoBulkAll spare + 1
  | .agg parts => uptoBulkAll parts + 1
  | .iface _ d => uptoBulk d + 1
  | .map entries => uptoBulkEntries entries + 1
  | .held _ => 1
def uptoBulkAll {H : Type} : List (DataW H) → Nat
  | [] => 0
  | d :: r => uptoBulk d + uptoBulkAll r
def uptoBulkEntries {H : Type} : List (Lit × DataW H) → Nat
  | [] => 0
  | x :: r => uptoBulkEntry x + uptoBulkEntries r
def uptoBulkEntry {H : Type} : Lit × DataW H → Nat
  | (.string bytes, d) => bytes.length + uptoBulk d + 1
  | (_, d) => uptoBulk d + 1
 end
def uptoSmall : (H : Type) → List (DataW H) → Bool := fun _ ds => decide (uptoBulkAll ds ≤ 1048576)
def OpenSpec.upto (s : _root_.Go.ChangeSpec) : _root_.Go.OpenSpec := { _root_.Go.OpenSpec.ofChange s with cond := some uptoSmall }

/-- 'bluelinelaw06.ChainIssues', WHERE WHAT IT READS IS OF BULK AT MOST 1048576: true; the input reads as it did. -/
def chainIssuesUptoRow : OpenClaim := { program := "ytpcoahkgkgmmlaagreatdoor", sum := "bdaa00277071db6b018df2ebabfb28c52b22314c3a081bb1771507d8469565d5", func := "blueline/bluelinelaw06.ChainIssues", spec := "chainIssues", unfollowed := true, recurses := true, named := ["blueline/chain.checks", "blueline/sheet.checks", "blueline/size.units"], plainKeys := false, apart := false, laid := [("blueline/size.units", laid_blueline_size_units), ("blueline/sheet.checks", laid_blueline_sheet_checks), ("blueline/chain.checks", laid_blueline_chain_checks)], narrowed := true }
def ChainIssuesUptoSaid : Prop := chainIssuesUptoRow.holds Tryz.pinned (OpenSpec.upto chainIssuesSpec)

/-- 'bluelinelaw06.ChainChanges', WHERE WHAT IT READS IS OF BULK AT MOST 1048576: true; the input reads as it did. -/
def chainChangesUptoRow : OpenClaim := { program := "ytpcoahkgkgmmlaagreatdoor", sum := "bdaa00277071db6b018df2ebabfb28c52b22314c3a081bb1771507d8469565d5", func := "blueline/bluelinelaw06.ChainChanges", spec := "chainChanges", unfollowed := true, recurses := true, named := ["blueline/chain.checks", "blueline/sheet.checks", "blueline/size.units"], plainKeys := false, apart := false, laid := [("blueline/size.units", laid_blueline_size_units), ("blueline/sheet.checks", laid_blueline_sheet_checks), ("blueline/chain.checks", laid_blueline_chain_checks)], narrowed := true }
def ChainChangesUptoSaid : Prop := chainChangesUptoRow.holds Tryz.pinned (OpenSpec.upto chainChangesSpec)

end Rows
end Go.Proofs.YtpcoahkgkgmmlaaGreatDoor
