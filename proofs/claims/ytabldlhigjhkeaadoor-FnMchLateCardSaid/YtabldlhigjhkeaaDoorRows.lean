/-
  NARROWER THAN 'FOR EVERY INPUT', by the rows' own cells (each row's printed sentence says how): FnExactMchStep: laid · FnExactMchRun: laid · FnMchOne: laid · FnMchNext: laid · FnMchShift: laid · FnMchPorts: laid · FnMchIrq: laid · FnMchStep: laid · FnMchCome: laid · FnMchReturn: laid · FnMchLate: laid · FnMchRun: laid · FnMchStop: laid.
  DERIVED. THE GIVEN ROWS OF THIS SEAT. 13 by the template 'for every input the law returns true; each argument reads behind the call as it read before'; 0 by the template 'total and deterministic' (their statements: YtabldlhigjhkeaaDoorTotals.lean).
  GIVEN WITH THE SEED: the statements are not yours to turn. If you find one false, say at which input.
  Laid BY PROGRAM, IN A SANDBOX (cutbox-rows.mjs): the forced cells as the released guide's own fill.sh prints them over the translation 2e19f93869f8fd97… (all of the seat's roots in one cut). By AI agents, Wed Nov 11 2026. No macro, syntax, notation, axiom, sorry.
-/
import Derived.Test.YtabldlhigjhkeaaDoorChecked
import GoSem.Claim
import GoSem.ClaimJoined
import GoSem.ClaimMapViews
import Derived.JoinedTies
import Derived.KernelRfl
namespace Go.Proofs.YtabldlhigjhkeaaDoor
/- THE CELL 'sum', in the pinned program and in every row, IS THE sha256 OF THE DUMP (.gsa) THAT YtabldlhigjhkeaaDoorProg.lean LOADS. Nothing in Lean hashes anything: it is a label: what it is worth is what the hold of that sum in a sandbox is worth. -/
noncomputable def Tryd.pinned : Pinned := { name := "ytabldlhigjhkeaadoor", sum := "2e19f93869f8fd97aeefb3ebe1f236e72ecbf925ea7e535271fa62055dce1f88", checked := Tryd.checked }
namespace Rows
def none {H : Type} : Left H := { results := [], args := [] }

/- WHAT THE LISTED PACKAGE-LEVEL VARIABLES READ AS WHEN THE CALL BEGINS. Each datum BY PROGRAM (the guide's laid-datum.mjs) off the statement by which the dump's own 'gosem.cut.vars' lays the variable. In a bare row this is a premise. The card (YtabldlhigjhkeaaDoorCards.lean) ties it to the program's text. -/
def laid_loop_example_latimer_impl_forms {H : Type} : DataW H := .slice [.agg [.lit (.bool false), .lit (.bool false), .lit (.int .i64 3), .slice [.lit (.string [115, 116, 111, 112]), .lit (.string [114, 101, 116, 117, 114, 110]), .lit (.string [108, 101, 116]), .lit (.string [107, 101, 101, 112])] []], .agg [.lit (.bool true), .lit (.bool false), .lit (.int .i64 255), .slice [.lit (.string [115, 101, 116])] []], .agg [.lit (.bool true), .lit (.bool true), .lit (.int .i64 0), .slice [.lit (.string [109, 111, 118, 101])] []], .agg [.lit (.bool true), .lit (.bool true), .lit (.int .i64 3), .slice [.lit (.string [97, 100, 100])] []], .agg [.lit (.bool true), .lit (.bool true), .lit (.int .i64 3), .slice [.lit (.string [115, 117, 98])] []], .agg [.lit (.bool true), .lit (.bool true), .lit (.int .i64 3), .slice [.lit (.string [109, 117, 108])] []], .agg [.lit (.bool true), .lit (.bool true), .lit (.int .i64 3), .slice [.lit (.string [97, 110, 100])] []], .agg [.lit (.bool true), .lit (.bool true), .lit (.int .i64 3), .slice [.lit (.string [120, 111, 114])] []], .agg [.lit (.bool true), .lit (.bool true), .lit (.int .i64 15), .slice [.lit (.string [115, 104, 105, 102, 116])] []], .agg [.lit (.bool true), .lit (.bool true), .lit (.int .i64 255), .slice [.lit (.string [108, 111, 97, 100])] []], .agg [.lit (.bool true), .lit (.bool true), .lit (.int .i64 255), .slice [.lit (.string [115, 116, 111, 114, 101])] []], .agg [.lit (.bool true), .lit (.bool true), .lit (.int .i64 255), .slice [.lit (.string [115, 97, 109, 101])] []], .agg [.lit (.bool true), .lit (.bool true), .lit (.int .i64 255), .slice [.lit (.string [108, 101, 115, 115])] []], .agg [.lit (.bool false), .lit (.bool true), .lit (.int .i64 0), .slice [.lit (.string [103, 111])] []], .agg [.lit (.bool true), .lit (.bool false), .lit (.int .i64 0), .slice [.lit (.string [111, 117, 116])] []], .agg [.lit (.bool true), .lit (.bool false), .lit (.int .i64 0), .slice [.lit (.string [105, 110])] []]] []

/-- 'laws.FnExactMchStep': WHATEVER THE INPUT: true; the input reads as it did. -/
def fnExactMchStepSpec : ChangeSpec := { name := "fnExactMchStep", vars := ["loop.example/latimer/impl.forms"], fn := fun _ => fun
  | [d1, d2, g1] => { results := [.lit (.bool true)], args := [d1, d2], vars := [g1] }
  | _ => none }
def fnExactMchStepRow : OpenClaim := { program := "ytabldlhigjhkeaadoor", sum := "2e19f93869f8fd97aeefb3ebe1f236e72ecbf925ea7e535271fa62055dce1f88", func := "loop.example/latimer/laws.FnExactMchStep", spec := "fnExactMchStep", named := ["loop.example/latimer/impl.forms"], apart := false, laid := [("loop.example/latimer/impl.forms", laid_loop_example_latimer_impl_forms)] }
def FnExactMchStepSaid : Prop := fnExactMchStepRow.holds Tryd.pinned (OpenSpec.ofChange fnExactMchStepSpec)

/-- ITS FALSE NEIGHBOUR: 'it returns false'. Refute it at one input. -/
def fnExactMchStepWrong : ChangeSpec := { name := "fnExactMchStep", vars := ["loop.example/latimer/impl.forms"], fn := fun _ => fun
  | [d1, d2, g1] => { results := [.lit (.bool false)], args := [d1, d2], vars := [g1] }
  | _ => none }
def FnExactMchStepWrongFalsely : Prop := fnExactMchStepRow.holds Tryd.pinned (OpenSpec.ofChange fnExactMchStepWrong)

/-- 'laws.FnExactMchRun': WHATEVER THE INPUT: true; the input reads as it did. -/
def fnExactMchRunSpec : ChangeSpec := { name := "fnExactMchRun", vars := ["loop.example/latimer/impl.forms"], fn := fun _ => fun
  | [d1, d2, d3, g1] => { results := [.lit (.bool true)], args := [d1, d2, d3], vars := [g1] }
  | _ => none }
def fnExactMchRunRow : OpenClaim := { program := "ytabldlhigjhkeaadoor", sum := "2e19f93869f8fd97aeefb3ebe1f236e72ecbf925ea7e535271fa62055dce1f88", func := "loop.example/latimer/laws.FnExactMchRun", spec := "fnExactMchRun", named := ["loop.example/latimer/impl.forms"], apart := false, laid := [("loop.example/latimer/impl.forms", laid_loop_example_latimer_impl_forms)] }
def FnExactMchRunSaid : Prop := fnExactMchRunRow.holds Tryd.pinned (OpenSpec.ofChange fnExactMchRunSpec)

/-- ITS FALSE NEIGHBOUR: 'it returns false'. Refute it at one input. -/
def fnExactMchRunWrong : ChangeSpec := { name := "fnExactMchRun", vars := ["loop.example/latimer/impl.forms"], fn := fun _ => fun
  | [d1, d2, d3, g1] => { results := [.lit (.bool false)], args := [d1, d2, d3], vars := [g1] }
  | _ => none }
def FnExactMchRunWrongFalsely : Prop := fnExactMchRunRow.holds Tryd.pinned (OpenSpec.ofChange fnExactMchRunWrong)

/-- 'laws.FnMchOne': WHATEVER THE INPUT: true; the input reads as it did. -/
def fnMchOneSpec : ChangeSpec := { name := "fnMchOne", vars := ["loop.example/latimer/impl.forms"], fn := fun _ => fun
  | [d, g1] => { results := [.lit (.bool true)], args := [d], vars := [g1] }
  | _ => none }
def fnMchOneRow : OpenClaim := { program := "ytabldlhigjhkeaadoor", sum := "2e19f93869f8fd97aeefb3ebe1f236e72ecbf925ea7e535271fa62055dce1f88", func := "loop.example/latimer/laws.FnMchOne", spec := "fnMchOne", named := ["loop.example/latimer/impl.forms"], apart := false, laid := [("loop.example/latimer/impl.forms", laid_loop_example_latimer_impl_forms)] }
def FnMchOneSaid : Prop := fnMchOneRow.holds Tryd.pinned (OpenSpec.ofChange fnMchOneSpec)

/-- ITS FALSE NEIGHBOUR: 'it returns false'. Refute it at one input. -/
def fnMchOneWrong : ChangeSpec := { name := "fnMchOne", vars := ["loop.example/latimer/impl.forms"], fn := fun _ => fun
  | [d, g1] => { results := [.lit (.bool false)], args := [d], vars := [g1] }
  | _ => none }
def FnMchOneWrongFalsely : Prop := fnMchOneRow.holds Tryd.pinned (OpenSpec.ofChange fnMchOneWrong)

/-- 'laws.FnMchNext': WHATEVER THE INPUT: true; the input reads as it did. -/
def fnMchNextSpec : ChangeSpec := { name := "fnMchNext", vars := ["loop.example/latimer/impl.forms"], fn := fun _ => fun
  | [d, g1] => { results := [.lit (.bool true)], args := [d], vars := [g1] }
  | _ => none }
def fnMchNextRow : OpenClaim := { program := "ytabldlhigjhkeaadoor", sum := "2e19f93869f8fd97aeefb3ebe1f236e72ecbf925ea7e535271fa62055dce1f88", func := "loop.example/latimer/laws.FnMchNext", spec := "fnMchNext", named := ["loop.example/latimer/impl.forms"], apart := false, laid := [("loop.example/latimer/impl.forms", laid_loop_example_latimer_impl_forms)] }
def FnMchNextSaid : Prop := fnMchNextRow.holds Tryd.pinned (OpenSpec.ofChange fnMchNextSpec)

/-- ITS FALSE NEIGHBOUR: 'it returns false'. Refute it at one input. -/
def fnMchNextWrong : ChangeSpec := { name := "fnMchNext", vars := ["loop.example/latimer/impl.forms"], fn := fun _ => fun
  | [d, g1] => { results := [.lit (.bool false)], args := [d], vars := [g1] }
  | _ => none }
def FnMchNextWrongFalsely : Prop := fnMchNextRow.holds Tryd.pinned (OpenSpec.ofChange fnMchNextWrong)

/-- 'laws.FnMchShift': WHATEVER THE INPUT: true; the input reads as it did. -/
def fnMchShiftSpec : ChangeSpec := { name := "fnMchShift", vars := ["loop.example/latimer/impl.forms"], fn := fun _ => fun
  | [d, g1] => { results := [.lit (.bool true)], args := [d], vars := [g1] }
  | _ => none }
def fnMchShiftRow : OpenClaim := { program := "ytabldlhigjhkeaadoor", sum := "2e19f93869f8fd97aeefb3ebe1f236e72ecbf925ea7e535271fa62055dce1f88", func := "loop.example/latimer/laws.FnMchShift", spec := "fnMchShift", named := ["loop.example/latimer/impl.forms"], apart := false, laid := [("loop.example/latimer/impl.forms", laid_loop_example_latimer_impl_forms)] }
def FnMchShiftSaid : Prop := fnMchShiftRow.holds Tryd.pinned (OpenSpec.ofChange fnMchShiftSpec)

/-- ITS FALSE NEIGHBOUR: 'it returns false'. Refute it at one input. -/
def fnMchShiftWrong : ChangeSpec := { name := "fnMchShift", vars := ["loop.example/latimer/impl.forms"], fn := fun _ => fun
  | [d, g1] => { results := [.lit (.bool false)], args := [d], vars := [g1] }
  | _ => none }
def FnMchShiftWrongFalsely : Prop := fnMchShiftRow.holds Tryd.pinned (OpenSpec.ofChange fnMchShiftWrong)

/-- 'laws.FnMchPorts': WHATEVER THE INPUT: true; the input reads as it did. -/
def fnMchPortsSpec : ChangeSpec := { name := "fnMchPorts", vars := ["loop.example/latimer/impl.forms"], fn := fun _ => fun
  | [d, g1] => { results := [.lit (.bool true)], args := [d], vars := [g1] }
  | _ => none }
def fnMchPortsRow : OpenClaim := { program := "ytabldlhigjhkeaadoor", sum := "2e19f93869f8fd97aeefb3ebe1f236e72ecbf925ea7e535271fa62055dce1f88", func := "loop.example/latimer/laws.FnMchPorts", spec := "fnMchPorts", named := ["loop.example/latimer/impl.forms"], apart := false, laid := [("loop.example/latimer/impl.forms", laid_loop_example_latimer_impl_forms)] }
def FnMchPortsSaid : Prop := fnMchPortsRow.holds Tryd.pinned (OpenSpec.ofChange fnMchPortsSpec)

/-- ITS FALSE NEIGHBOUR: 'it returns false'. Refute it at one input. -/
def fnMchPortsWrong : ChangeSpec := { name := "fnMchPorts", vars := ["loop.example/latimer/impl.forms"], fn := fun _ => fun
  | [d, g1] => { results := [.lit (.bool false)], args := [d], vars := [g1] }
  | _ => none }
def FnMchPortsWrongFalsely : Prop := fnMchPortsRow.holds Tryd.pinned (OpenSpec.ofChange fnMchPortsWrong)

/-- 'laws.FnMchIrq': WHATEVER THE INPUT: true; the input reads as it did. -/
def fnMchIrqSpec : ChangeSpec := { name := "fnMchIrq", vars := ["loop.example/latimer/impl.forms"], fn := fun _ => fun
  | [d, g1] => { results := [.lit (.bool true)], args := [d], vars := [g1] }
  | _ => none }
def fnMchIrqRow : OpenClaim := { program := "ytabldlhigjhkeaadoor", sum := "2e19f93869f8fd97aeefb3ebe1f236e72ecbf925ea7e535271fa62055dce1f88", func := "loop.example/latimer/laws.FnMchIrq", spec := "fnMchIrq", named := ["loop.example/latimer/impl.forms"], apart := false, laid := [("loop.example/latimer/impl.forms", laid_loop_example_latimer_impl_forms)] }
def FnMchIrqSaid : Prop := fnMchIrqRow.holds Tryd.pinned (OpenSpec.ofChange fnMchIrqSpec)

/-- ITS FALSE NEIGHBOUR: 'it returns false'. Refute it at one input. -/
def fnMchIrqWrong : ChangeSpec := { name := "fnMchIrq", vars := ["loop.example/latimer/impl.forms"], fn := fun _ => fun
  | [d, g1] => { results := [.lit (.bool false)], args := [d], vars := [g1] }
  | _ => none }
def FnMchIrqWrongFalsely : Prop := fnMchIrqRow.holds Tryd.pinned (OpenSpec.ofChange fnMchIrqWrong)

/-- 'laws.FnMchStep': WHATEVER THE INPUT: true; the input reads as it did. -/
def fnMchStepSpec : ChangeSpec := { name := "fnMchStep", vars := ["loop.example/latimer/impl.forms"], fn := fun _ => fun
  | [d, g1] => { results := [.lit (.bool true)], args := [d], vars := [g1] }
  | _ => none }
def fnMchStepRow : OpenClaim := { program := "ytabldlhigjhkeaadoor", sum := "2e19f93869f8fd97aeefb3ebe1f236e72ecbf925ea7e535271fa62055dce1f88", func := "loop.example/latimer/laws.FnMchStep", spec := "fnMchStep", named := ["loop.example/latimer/impl.forms"], apart := false, laid := [("loop.example/latimer/impl.forms", laid_loop_example_latimer_impl_forms)] }
def FnMchStepSaid : Prop := fnMchStepRow.holds Tryd.pinned (OpenSpec.ofChange fnMchStepSpec)

/-- ITS FALSE NEIGHBOUR: 'it returns false'. Refute it at one input. -/
def fnMchStepWrong : ChangeSpec := { name := "fnMchStep", vars := ["loop.example/latimer/impl.forms"], fn := fun _ => fun
  | [d, g1] => { results := [.lit (.bool false)], args := [d], vars := [g1] }
  | _ => none }
def FnMchStepWrongFalsely : Prop := fnMchStepRow.holds Tryd.pinned (OpenSpec.ofChange fnMchStepWrong)

/-- 'laws.FnMchCome': WHATEVER THE INPUT: true; the input reads as it did. -/
def fnMchComeSpec : ChangeSpec := { name := "fnMchCome", vars := ["loop.example/latimer/impl.forms"], fn := fun _ => fun
  | [d, g1] => { results := [.lit (.bool true)], args := [d], vars := [g1] }
  | _ => none }
def fnMchComeRow : OpenClaim := { program := "ytabldlhigjhkeaadoor", sum := "2e19f93869f8fd97aeefb3ebe1f236e72ecbf925ea7e535271fa62055dce1f88", func := "loop.example/latimer/laws.FnMchCome", spec := "fnMchCome", named := ["loop.example/latimer/impl.forms"], apart := false, laid := [("loop.example/latimer/impl.forms", laid_loop_example_latimer_impl_forms)] }
def FnMchComeSaid : Prop := fnMchComeRow.holds Tryd.pinned (OpenSpec.ofChange fnMchComeSpec)

/-- ITS FALSE NEIGHBOUR: 'it returns false'. Refute it at one input. -/
def fnMchComeWrong : ChangeSpec := { name := "fnMchCome", vars := ["loop.example/latimer/impl.forms"], fn := fun _ => fun
  | [d, g1] => { results := [.lit (.bool false)], args := [d], vars := [g1] }
  | _ => none }
def FnMchComeWrongFalsely : Prop := fnMchComeRow.holds Tryd.pinned (OpenSpec.ofChange fnMchComeWrong)

/-- 'laws.FnMchReturn': WHATEVER THE INPUT: true; the input reads as it did. -/
def fnMchReturnSpec : ChangeSpec := { name := "fnMchReturn", vars := ["loop.example/latimer/impl.forms"], fn := fun _ => fun
  | [d, g1] => { results := [.lit (.bool true)], args := [d], vars := [g1] }
  | _ => none }
def fnMchReturnRow : OpenClaim := { program := "ytabldlhigjhkeaadoor", sum := "2e19f93869f8fd97aeefb3ebe1f236e72ecbf925ea7e535271fa62055dce1f88", func := "loop.example/latimer/laws.FnMchReturn", spec := "fnMchReturn", named := ["loop.example/latimer/impl.forms"], apart := false, laid := [("loop.example/latimer/impl.forms", laid_loop_example_latimer_impl_forms)] }
def FnMchReturnSaid : Prop := fnMchReturnRow.holds Tryd.pinned (OpenSpec.ofChange fnMchReturnSpec)

/-- ITS FALSE NEIGHBOUR: 'it returns false'. Refute it at one input. -/
def fnMchReturnWrong : ChangeSpec := { name := "fnMchReturn", vars := ["loop.example/latimer/impl.forms"], fn := fun _ => fun
  | [d, g1] => { results := [.lit (.bool false)], args := [d], vars := [g1] }
  | _ => none }
def FnMchReturnWrongFalsely : Prop := fnMchReturnRow.holds Tryd.pinned (OpenSpec.ofChange fnMchReturnWrong)

/-- 'laws.FnMchLate': WHATEVER THE INPUT: true; the input reads as it did. -/
def fnMchLateSpec : ChangeSpec := { name := "fnMchLate", vars := ["loop.example/latimer/impl.forms"], fn := fun _ => fun
  | [d, g1] => { results := [.lit (.bool true)], args := [d], vars := [g1] }
  | _ => none }
def fnMchLateRow : OpenClaim := { program := "ytabldlhigjhkeaadoor", sum := "2e19f93869f8fd97aeefb3ebe1f236e72ecbf925ea7e535271fa62055dce1f88", func := "loop.example/latimer/laws.FnMchLate", spec := "fnMchLate", named := ["loop.example/latimer/impl.forms"], apart := false, laid := [("loop.example/latimer/impl.forms", laid_loop_example_latimer_impl_forms)] }
def FnMchLateSaid : Prop := fnMchLateRow.holds Tryd.pinned (OpenSpec.ofChange fnMchLateSpec)

/-- ITS FALSE NEIGHBOUR: 'it returns false'. Refute it at one input. -/
def fnMchLateWrong : ChangeSpec := { name := "fnMchLate", vars := ["loop.example/latimer/impl.forms"], fn := fun _ => fun
  | [d, g1] => { results := [.lit (.bool false)], args := [d], vars := [g1] }
  | _ => none }
def FnMchLateWrongFalsely : Prop := fnMchLateRow.holds Tryd.pinned (OpenSpec.ofChange fnMchLateWrong)

/-- 'laws.FnMchRun': WHATEVER THE INPUT: true; the input reads as it did. -/
def fnMchRunSpec : ChangeSpec := { name := "fnMchRun", vars := ["loop.example/latimer/impl.forms"], fn := fun _ => fun
  | [d, g1] => { results := [.lit (.bool true)], args := [d], vars := [g1] }
  | _ => none }
def fnMchRunRow : OpenClaim := { program := "ytabldlhigjhkeaadoor", sum := "2e19f93869f8fd97aeefb3ebe1f236e72ecbf925ea7e535271fa62055dce1f88", func := "loop.example/latimer/laws.FnMchRun", spec := "fnMchRun", named := ["loop.example/latimer/impl.forms"], apart := false, laid := [("loop.example/latimer/impl.forms", laid_loop_example_latimer_impl_forms)] }
def FnMchRunSaid : Prop := fnMchRunRow.holds Tryd.pinned (OpenSpec.ofChange fnMchRunSpec)

/-- ITS FALSE NEIGHBOUR: 'it returns false'. Refute it at one input. -/
def fnMchRunWrong : ChangeSpec := { name := "fnMchRun", vars := ["loop.example/latimer/impl.forms"], fn := fun _ => fun
  | [d, g1] => { results := [.lit (.bool false)], args := [d], vars := [g1] }
  | _ => none }
def FnMchRunWrongFalsely : Prop := fnMchRunRow.holds Tryd.pinned (OpenSpec.ofChange fnMchRunWrong)

/-- 'laws.FnMchStop': WHATEVER THE INPUT: true; the input reads as it did. -/
def fnMchStopSpec : ChangeSpec := { name := "fnMchStop", vars := ["loop.example/latimer/impl.forms"], fn := fun _ => fun
  | [d, g1] => { results := [.lit (.bool true)], args := [d], vars := [g1] }
  | _ => none }
def fnMchStopRow : OpenClaim := { program := "ytabldlhigjhkeaadoor", sum := "2e19f93869f8fd97aeefb3ebe1f236e72ecbf925ea7e535271fa62055dce1f88", func := "loop.example/latimer/laws.FnMchStop", spec := "fnMchStop", named := ["loop.example/latimer/impl.forms"], apart := false, laid := [("loop.example/latimer/impl.forms", laid_loop_example_latimer_impl_forms)] }
def FnMchStopSaid : Prop := fnMchStopRow.holds Tryd.pinned (OpenSpec.ofChange fnMchStopSpec)

/-- ITS FALSE NEIGHBOUR: 'it returns false'. Refute it at one input. -/
def fnMchStopWrong : ChangeSpec := { name := "fnMchStop", vars := ["loop.example/latimer/impl.forms"], fn := fun _ => fun
  | [d, g1] => { results := [.lit (.bool false)], args := [d], vars := [g1] }
  | _ => none }
def FnMchStopWrongFalsely : Prop := fnMchStopRow.holds Tryd.pinned (OpenSpec.ofChange fnMchStopWrong)

/- THE SECOND FORM. 'bulk': how many values and letters a reading holds, each counted each time it is reached (what is shared counts as often as it is met; a slice's spare places count too). A statement '..UptoSaid' is the law's where the arguments, and the package variables that the reading takes, are together of bulk at most 1048576: NARROWER than '..Said'. Prove '..Said' where nothing that the law and all that it calls make is longer than what came in: it says more and counts as full. Else prove '..UptoSaid'. A law counts once. -/
mutual
def uptoBulk {H : Type} : DataW H → Nat
  | .lit (.string bytes) => bytes.length + 1
  | .lit _ => 1
  | .nil => 1
  | .ptr d => uptoBulk d + 1
  | .slice elems spare => uptoBulkAll elems + uptoBulkAll spare + 1
  | .agg parts => uptoBulkAll parts + 1
  | .iface _ d => uptoBulk d + 1
  | .map entries => uptoBulkEntries entries + 1
  | .held _ => 1
def uptoBulkAll {H : Type} : List (DataW H) → Nat
  | [] => 0
  | d :: r => uptoBulk d + uptoBulkAll r
def uptoBulkEntries {H : Type} : List (Lit × DataW H) → Nat
  | [] => 0
  | x :: r => uptoBulkEntry x + uptoBulkEntries r
def uptoBulkEntry {H : Type} : Lit × DataW H → Nat
  | (.string bytes, d) => bytes.length + uptoBulk d + 1
  | (_, d) => uptoBulk d + 1
 end
def uptoSmall : (H : Type) → List (DataW H) → Bool := fun _ ds => decide (uptoBulkAll ds ≤ 1048576)
def OpenSpec.upto (s : _root_.Go.ChangeSpec) : _root_.Go.OpenSpec := { _root_.Go.OpenSpec.ofChange s with cond := some uptoSmall }

/-- 'laws.FnExactMchStep', WHERE WHAT IT READS IS OF BULK AT MOST 1048576: true; the input reads as it did. -/
def fnExactMchStepUptoRow : OpenClaim := { program := "ytabldlhigjhkeaadoor", sum := "2e19f93869f8fd97aeefb3ebe1f236e72ecbf925ea7e535271fa62055dce1f88", func := "loop.example/latimer/laws.FnExactMchStep", spec := "fnExactMchStep", named := ["loop.example/latimer/impl.forms"], apart := false, laid := [("loop.example/latimer/impl.forms", laid_loop_example_latimer_impl_forms)], narrowed := true }
def FnExactMchStepUptoSaid : Prop := fnExactMchStepUptoRow.holds Tryd.pinned (OpenSpec.upto fnExactMchStepSpec)

/-- 'laws.FnExactMchRun', WHERE WHAT IT READS IS OF BULK AT MOST 1048576: true; the input reads as it did. -/
def fnExactMchRunUptoRow : OpenClaim := { program := "ytabldlhigjhkeaadoor", sum := "2e19f93869f8fd97aeefb3ebe1f236e72ecbf925ea7e535271fa62055dce1f88", func := "loop.example/latimer/laws.FnExactMchRun", spec := "fnExactMchRun", named := ["loop.example/latimer/impl.forms"], apart := false, laid := [("loop.example/latimer/impl.forms", laid_loop_example_latimer_impl_forms)], narrowed := true }
def FnExactMchRunUptoSaid : Prop := fnExactMchRunUptoRow.holds Tryd.pinned (OpenSpec.upto fnExactMchRunSpec)

/-- 'laws.FnMchOne', WHERE WHAT IT READS IS OF BULK AT MOST 1048576: true; the input reads as it did. -/
def fnMchOneUptoRow : OpenClaim := { program := "ytabldlhigjhkeaadoor", sum := "2e19f93869f8fd97aeefb3ebe1f236e72ecbf925ea7e535271fa62055dce1f88", func := "loop.example/latimer/laws.FnMchOne", spec := "fnMchOne", named := ["loop.example/latimer/impl.forms"], apart := false, laid := [("loop.example/latimer/impl.forms", laid_loop_example_latimer_impl_forms)], narrowed := true }
def FnMchOneUptoSaid : Prop := fnMchOneUptoRow.holds Tryd.pinned (OpenSpec.upto fnMchOneSpec)

/-- 'laws.FnMchNext', WHERE WHAT IT READS IS OF BULK AT MOST 1048576: true; the input reads as it did. -/
def fnMchNextUptoRow : OpenClaim := { program := "ytabldlhigjhkeaadoor", sum := "2e19f93869f8fd97aeefb3ebe1f236e72ecbf925ea7e535271fa62055dce1f88", func := "loop.example/latimer/laws.FnMchNext", spec := "fnMchNext", named := ["loop.example/latimer/impl.forms"], apart := false, laid := [("loop.example/latimer/impl.forms", laid_loop_example_latimer_impl_forms)], narrowed := true }
def FnMchNextUptoSaid : Prop := fnMchNextUptoRow.holds Tryd.pinned (OpenSpec.upto fnMchNextSpec)

/-- 'laws.FnMchShift', WHERE WHAT IT READS IS OF BULK AT MOST 1048576: true; the input reads as it did. -/
def fnMchShiftUptoRow : OpenClaim := { program := "ytabldlhigjhkeaadoor", sum := "2e19f93869f8fd97aeefb3ebe1f236e72ecbf925ea7e535271fa62055dce1f88", func := "loop.example/latimer/laws.FnMchShift", spec := "fnMchShift", named := ["loop.example/latimer/impl.forms"], apart := false, laid := [("loop.example/latimer/impl.forms", laid_loop_example_latimer_impl_forms)], narrowed := true }
def FnMchShiftUptoSaid : Prop := fnMchShiftUptoRow.holds Tryd.pinned (OpenSpec.upto fnMchShiftSpec)

/-- 'laws.FnMchPorts', WHERE WHAT IT READS IS OF BULK AT MOST 1048576: true; the input reads as it did. -/
def fnMchPortsUptoRow : OpenClaim := { program := "ytabldlhigjhkeaadoor", sum := "2e19f93869f8fd97aeefb3ebe1f236e72ecbf925ea7e535271fa62055dce1f88", func := "loop.example/latimer/laws.FnMchPorts", spec := "fnMchPorts", named := ["loop.example/latimer/impl.forms"], apart := false, laid := [("loop.example/latimer/impl.forms", laid_loop_example_latimer_impl_forms)], narrowed := true }
def FnMchPortsUptoSaid : Prop := fnMchPortsUptoRow.holds Tryd.pinned (OpenSpec.upto fnMchPortsSpec)

/-- 'laws.FnMchIrq', WHERE WHAT IT READS IS OF BULK AT MOST 1048576: true; the input reads as it did. -/
def fnMchIrqUptoRow : OpenClaim := { program := "ytabldlhigjhkeaadoor", sum := "2e19f93869f8fd97aeefb3ebe1f236e72ecbf925ea7e535271fa62055dce1f88", func := "loop.example/latimer/laws.FnMchIrq", spec := "fnMchIrq", named := ["loop.example/latimer/impl.forms"], apart := false, laid := [("loop.example/latimer/impl.forms", laid_loop_example_latimer_impl_forms)], narrowed := true }
def FnMchIrqUptoSaid : Prop := fnMchIrqUptoRow.holds Tryd.pinned (OpenSpec.upto fnMchIrqSpec)

/-- 'laws.FnMchStep', WHERE WHAT IT READS IS OF BULK AT MOST 1048576: true; the input reads as it did. -/
def fnMchStepUptoRow : OpenClaim := { program := "ytabldlhigjhkeaadoor", sum := "2e19f93869f8fd97aeefb3ebe1f236e72ecbf925ea7e535271fa62055dce1f88", func := "loop.example/latimer/laws.FnMchStep", spec := "fnMchStep", named := ["loop.example/latimer/impl.forms"], apart := false, laid := [("loop.example/latimer/impl.forms", laid_loop_example_latimer_impl_forms)], narrowed := true }
def FnMchStepUptoSaid : Prop := fnMchStepUptoRow.holds Tryd.pinned (OpenSpec.upto fnMchStepSpec)

/-- 'laws.FnMchCome', WHERE WHAT IT READS IS OF BULK AT MOST 1048576: true; the input reads as it did. -/
def fnMchComeUptoRow : OpenClaim := { program := "ytabldlhigjhkeaadoor", sum := "2e19f93869f8fd97aeefb3ebe1f236e72ecbf925ea7e535271fa62055dce1f88", func := "loop.example/latimer/laws.FnMchCome", spec := "fnMchCome", named := ["loop.example/latimer/impl.forms"], apart := false, laid := [("loop.example/latimer/impl.forms", laid_loop_example_latimer_impl_forms)], narrowed := true }
def FnMchComeUptoSaid : Prop := fnMchComeUptoRow.holds Tryd.pinned (OpenSpec.upto fnMchComeSpec)

/-- 'laws.FnMchReturn', WHERE WHAT IT READS IS OF BULK AT MOST 1048576: true; the input reads as it did. -/
def fnMchReturnUptoRow : OpenClaim := { program := "ytabldlhigjhkeaadoor", sum := "2e19f93869f8fd97aeefb3ebe1f236e72ecbf925ea7e535271fa62055dce1f88", func := "loop.example/latimer/laws.FnMchReturn", spec := "fnMchReturn", named := ["loop.example/latimer/impl.forms"], apart := false, laid := [("loop.example/latimer/impl.forms", laid_loop_example_latimer_impl_forms)], narrowed := true }
def FnMchReturnUptoSaid : Prop := fnMchReturnUptoRow.holds Tryd.pinned (OpenSpec.upto fnMchReturnSpec)

/-- 'laws.FnMchLate', WHERE WHAT IT READS IS OF BULK AT MOST 1048576: true; the input reads as it did. -/
def fnMchLateUptoRow : OpenClaim := { program := "ytabldlhigjhkeaadoor", sum := "2e19f93869f8fd97aeefb3ebe1f236e72ecbf925ea7e535271fa62055dce1f88", func := "loop.example/latimer/laws.FnMchLate", spec := "fnMchLate", named := ["loop.example/latimer/impl.forms"], apart := false, laid := [("loop.example/latimer/impl.forms", laid_loop_example_latimer_impl_forms)], narrowed := true }
def FnMchLateUptoSaid : Prop := fnMchLateUptoRow.holds Tryd.pinned (OpenSpec.upto fnMchLateSpec)

/-- 'laws.FnMchRun', WHERE WHAT IT READS IS OF BULK AT MOST 1048576: true; the input reads as it did. -/
def fnMchRunUptoRow : OpenClaim := { program := "ytabldlhigjhkeaadoor", sum := "2e19f93869f8fd97aeefb3ebe1f236e72ecbf925ea7e535271fa62055dce1f88", func := "loop.example/latimer/laws.FnMchRun", spec := "fnMchRun", named := ["loop.example/latimer/impl.forms"], apart := false, laid := [("loop.example/latimer/impl.forms", laid_loop_example_latimer_impl_forms)], narrowed := true }
def FnMchRunUptoSaid : Prop := fnMchRunUptoRow.holds Tryd.pinned (OpenSpec.upto fnMchRunSpec)

/-- 'laws.FnMchStop', WHERE WHAT IT READS IS OF BULK AT MOST 1048576: true; the input reads as it did. -/
def fnMchStopUptoRow : OpenClaim := { program := "ytabldlhigjhkeaadoor", sum := "2e19f93869f8fd97aeefb3ebe1f236e72ecbf925ea7e535271fa62055dce1f88", func := "loop.example/latimer/laws.FnMchStop", spec := "fnMchStop", named := ["loop.example/latimer/impl.forms"], apart := false, laid := [("loop.example/latimer/impl.forms", laid_loop_example_latimer_impl_forms)], narrowed := true }
def FnMchStopUptoSaid : Prop := fnMchStopUptoRow.holds Tryd.pinned (OpenSpec.upto fnMchStopSpec)

end Rows
end Go.Proofs.YtabldlhigjhkeaaDoor
