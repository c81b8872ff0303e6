/-
  NARROWER THAN 'FOR EVERY INPUT', by the rows' own cells (each row's printed sentence says how): FnBlkOk: laid · FnBlkSize: laid · FnBlkTake: laid · FnExactBlkFind: laid · FnExactBlkLower: laid · FnBlkFind: laid.
  DERIVED. THE GIVEN ROWS OF THIS SEAT. 6 by the template 'for every input the law returns true; each argument reads behind the call as it read before'; 0 by the template 'total and deterministic' (their statements: YtokibcicoomceaaDoorTotals.lean).
  GIVEN WITH THE SEED: the statements are not yours to turn. If you find one false, say at which input.
  Laid BY PROGRAM, IN A SANDBOX (cutbox-rows.mjs): the forced cells as the released guide's own fill.sh prints them over the translation d2a7d450da8449ee… (all of the seat's roots in one cut). By AI agents, Wed Nov 11 2026. No macro, syntax, notation, axiom, sorry.
-/
import Derived.Test.YtokibcicoomceaaDoorChecked
import GoSem.Claim
import GoSem.ClaimJoined
import GoSem.ClaimMapViews
import Derived.JoinedTies
import Derived.KernelRfl
namespace Go.Proofs.YtokibcicoomceaaDoor
/- THE CELL 'sum', in the pinned program and in every row, IS THE sha256 OF THE DUMP (.gsa) THAT YtokibcicoomceaaDoorProg.lean LOADS. Nothing in Lean hashes anything: it is a label: what it is worth is what the hold of that sum in a sandbox is worth. -/
noncomputable def Tryd.pinned : Pinned := { name := "ytokibcicoomceaadoor", sum := "d2a7d450da8449eed113354f883e1df3c62dca1a6eb8e074e4e0e8f4d797e1a1", checked := Tryd.checked }
namespace Rows
def none {H : Type} : Left H := { results := [], args := [] }

/- WHAT THE LISTED PACKAGE-LEVEL VARIABLES READ AS WHEN THE CALL BEGINS. Each datum BY PROGRAM (the guide's laid-datum.mjs) off the statement by which the dump's own 'gosem.cut.vars' lays the variable. In a bare row this is a premise. The card (YtokibcicoomceaaDoorCards.lean) ties it to the program's text. -/
def laid_loop_example_latimer_impl_forms {H : Type} : DataW H := .slice [.agg [.lit (.bool false), .lit (.bool false), .lit (.int .i64 3), .slice [.lit (.string [115, 116, 111, 112]), .lit (.string [114, 101, 116, 117, 114, 110]), .lit (.string [108, 101, 116]), .lit (.string [107, 101, 101, 112])] []], .agg [.lit (.bool true), .lit (.bool false), .lit (.int .i64 255), .slice [.lit (.string [115, 101, 116])] []], .agg [.lit (.bool true), .lit (.bool true), .lit (.int .i64 0), .slice [.lit (.string [109, 111, 118, 101])] []], .agg [.lit (.bool true), .lit (.bool true), .lit (.int .i64 3), .slice [.lit (.string [97, 100, 100])] []], .agg [.lit (.bool true), .lit (.bool true), .lit (.int .i64 3), .slice [.lit (.string [115, 117, 98])] []], .agg [.lit (.bool true), .lit (.bool true), .lit (.int .i64 3), .slice [.lit (.string [109, 117, 108])] []], .agg [.lit (.bool true), .lit (.bool true), .lit (.int .i64 3), .slice [.lit (.string [97, 110, 100])] []], .agg [.lit (.bool true), .lit (.bool true), .lit (.int .i64 3), .slice [.lit (.string [120, 111, 114])] []], .agg [.lit (.bool true), .lit (.bool true), .lit (.int .i64 15), .slice [.lit (.string [115, 104, 105, 102, 116])] []], .agg [.lit (.bool true), .lit (.bool true), .lit (.int .i64 255), .slice [.lit (.string [108, 111, 97, 100])] []], .agg [.lit (.bool true), .lit (.bool true), .lit (.int .i64 255), .slice [.lit (.string [115, 116, 111, 114, 101])] []], .agg [.lit (.bool true), .lit (.bool true), .lit (.int .i64 255), .slice [.lit (.string [115, 97, 109, 101])] []], .agg [.lit (.bool true), .lit (.bool true), .lit (.int .i64 255), .slice [.lit (.string [108, 101, 115, 115])] []], .agg [.lit (.bool false), .lit (.bool true), .lit (.int .i64 0), .slice [.lit (.string [103, 111])] []], .agg [.lit (.bool true), .lit (.bool false), .lit (.int .i64 0), .slice [.lit (.string [111, 117, 116])] []], .agg [.lit (.bool true), .lit (.bool false), .lit (.int .i64 0), .slice [.lit (.string [105, 110])] []]] []

/-- 'laws.FnBlkOk': WHATEVER THE INPUT: true; the input reads as it did. -/
def fnBlkOkSpec : ChangeSpec := { name := "fnBlkOk", vars := ["loop.example/latimer/impl.forms"], fn := fun _ => fun
  | [d, g1] => { results := [.lit (.bool true)], args := [d], vars := [g1] }
  | _ => none }
def fnBlkOkRow : OpenClaim := { program := "ytokibcicoomceaadoor", sum := "d2a7d450da8449eed113354f883e1df3c62dca1a6eb8e074e4e0e8f4d797e1a1", func := "loop.example/latimer/laws.FnBlkOk", spec := "fnBlkOk", named := ["loop.example/latimer/impl.forms"], apart := false, laid := [("loop.example/latimer/impl.forms", laid_loop_example_latimer_impl_forms)] }
def FnBlkOkSaid : Prop := fnBlkOkRow.holds Tryd.pinned (OpenSpec.ofChange fnBlkOkSpec)

/-- ITS FALSE NEIGHBOUR: 'it returns false'. Refute it at one input. -/
def fnBlkOkWrong : ChangeSpec := { name := "fnBlkOk", vars := ["loop.example/latimer/impl.forms"], fn := fun _ => fun
  | [d, g1] => { results := [.lit (.bool false)], args := [d], vars := [g1] }
  | _ => none }
def FnBlkOkWrongFalsely : Prop := fnBlkOkRow.holds Tryd.pinned (OpenSpec.ofChange fnBlkOkWrong)

/-- 'laws.FnBlkSize': WHATEVER THE INPUT: true; the input reads as it did. -/
def fnBlkSizeSpec : ChangeSpec := { name := "fnBlkSize", vars := ["loop.example/latimer/impl.forms"], fn := fun _ => fun
  | [d, g1] => { results := [.lit (.bool true)], args := [d], vars := [g1] }
  | _ => none }
def fnBlkSizeRow : OpenClaim := { program := "ytokibcicoomceaadoor", sum := "d2a7d450da8449eed113354f883e1df3c62dca1a6eb8e074e4e0e8f4d797e1a1", func := "loop.example/latimer/laws.FnBlkSize", spec := "fnBlkSize", unfollowed := true, recurses := true, named := ["loop.example/latimer/impl.forms"], apart := false, laid := [("loop.example/latimer/impl.forms", laid_loop_example_latimer_impl_forms)] }
def FnBlkSizeSaid : Prop := fnBlkSizeRow.holds Tryd.pinned (OpenSpec.ofChange fnBlkSizeSpec)

/-- ITS FALSE NEIGHBOUR: 'it returns false'. Refute it at one input. -/
def fnBlkSizeWrong : ChangeSpec := { name := "fnBlkSize", vars := ["loop.example/latimer/impl.forms"], fn := fun _ => fun
  | [d, g1] => { results := [.lit (.bool false)], args := [d], vars := [g1] }
  | _ => none }
def FnBlkSizeWrongFalsely : Prop := fnBlkSizeRow.holds Tryd.pinned (OpenSpec.ofChange fnBlkSizeWrong)

/-- 'laws.FnBlkTake': WHATEVER THE INPUT: true; the input reads as it did. -/
def fnBlkTakeSpec : ChangeSpec := { name := "fnBlkTake", vars := ["loop.example/latimer/impl.forms"], fn := fun _ => fun
  | [d1, d2, g1] => { results := [.lit (.bool true)], args := [d1, d2], vars := [g1] }
  | _ => none }
def fnBlkTakeRow : OpenClaim := { program := "ytokibcicoomceaadoor", sum := "d2a7d450da8449eed113354f883e1df3c62dca1a6eb8e074e4e0e8f4d797e1a1", func := "loop.example/latimer/laws.FnBlkTake", spec := "fnBlkTake", named := ["loop.example/latimer/impl.forms"], apart := false, laid := [("loop.example/latimer/impl.forms", laid_loop_example_latimer_impl_forms)] }
def FnBlkTakeSaid : Prop := fnBlkTakeRow.holds Tryd.pinned (OpenSpec.ofChange fnBlkTakeSpec)

/-- ITS FALSE NEIGHBOUR: 'it returns false'. Refute it at one input. -/
def fnBlkTakeWrong : ChangeSpec := { name := "fnBlkTake", vars := ["loop.example/latimer/impl.forms"], fn := fun _ => fun
  | [d1, d2, g1] => { results := [.lit (.bool false)], args := [d1, d2], vars := [g1] }
  | _ => none }
def FnBlkTakeWrongFalsely : Prop := fnBlkTakeRow.holds Tryd.pinned (OpenSpec.ofChange fnBlkTakeWrong)

/-- 'laws.FnExactBlkFind': WHATEVER THE INPUT: true; the input reads as it did. -/
def fnExactBlkFindSpec : ChangeSpec := { name := "fnExactBlkFind", vars := ["loop.example/latimer/impl.forms"], fn := fun _ => fun
  | [d, g1] => { results := [.lit (.bool true)], args := [d], vars := [g1] }
  | _ => none }
def fnExactBlkFindRow : OpenClaim := { program := "ytokibcicoomceaadoor", sum := "d2a7d450da8449eed113354f883e1df3c62dca1a6eb8e074e4e0e8f4d797e1a1", func := "loop.example/latimer/laws.FnExactBlkFind", spec := "fnExactBlkFind", named := ["loop.example/latimer/impl.forms"], apart := false, laid := [("loop.example/latimer/impl.forms", laid_loop_example_latimer_impl_forms)] }
def FnExactBlkFindSaid : Prop := fnExactBlkFindRow.holds Tryd.pinned (OpenSpec.ofChange fnExactBlkFindSpec)

/-- ITS FALSE NEIGHBOUR: 'it returns false'. Refute it at one input. -/
def fnExactBlkFindWrong : ChangeSpec := { name := "fnExactBlkFind", vars := ["loop.example/latimer/impl.forms"], fn := fun _ => fun
  | [d, g1] => { results := [.lit (.bool false)], args := [d], vars := [g1] }
  | _ => none }
def FnExactBlkFindWrongFalsely : Prop := fnExactBlkFindRow.holds Tryd.pinned (OpenSpec.ofChange fnExactBlkFindWrong)

/-- 'laws.FnExactBlkLower': WHATEVER THE INPUT: true; the input reads as it did. -/
def fnExactBlkLowerSpec : ChangeSpec := { name := "fnExactBlkLower", vars := ["loop.example/latimer/impl.forms"], fn := fun _ => fun
  | [d1, d2, g1] => { results := [.lit (.bool true)], args := [d1, d2], vars := [g1] }
  | _ => none }
def fnExactBlkLowerRow : OpenClaim := { program := "ytokibcicoomceaadoor", sum := "d2a7d450da8449eed113354f883e1df3c62dca1a6eb8e074e4e0e8f4d797e1a1", func := "loop.example/latimer/laws.FnExactBlkLower", spec := "fnExactBlkLower", unfollowed := true, recurses := true, named := ["loop.example/latimer/impl.forms"], apart := false, laid := [("loop.example/latimer/impl.forms", laid_loop_example_latimer_impl_forms)] }
def FnExactBlkLowerSaid : Prop := fnExactBlkLowerRow.holds Tryd.pinned (OpenSpec.ofChange fnExactBlkLowerSpec)

/-- ITS FALSE NEIGHBOUR: 'it returns false'. Refute it at one input. -/
def fnExactBlkLowerWrong : ChangeSpec := { name := "fnExactBlkLower", vars := ["loop.example/latimer/impl.forms"], fn := fun _ => fun
  | [d1, d2, g1] => { results := [.lit (.bool false)], args := [d1, d2], vars := [g1] }
  | _ => none }
def FnExactBlkLowerWrongFalsely : Prop := fnExactBlkLowerRow.holds Tryd.pinned (OpenSpec.ofChange fnExactBlkLowerWrong)

/-- 'laws.FnBlkFind': WHATEVER THE INPUT: true; the input reads as it did. -/
def fnBlkFindSpec : ChangeSpec := { name := "fnBlkFind", vars := ["loop.example/latimer/impl.forms"], fn := fun _ => fun
  | [d, g1] => { results := [.lit (.bool true)], args := [d], vars := [g1] }
  | _ => none }
def fnBlkFindRow : OpenClaim := { program := "ytokibcicoomceaadoor", sum := "d2a7d450da8449eed113354f883e1df3c62dca1a6eb8e074e4e0e8f4d797e1a1", func := "loop.example/latimer/laws.FnBlkFind", spec := "fnBlkFind", named := ["loop.example/latimer/impl.forms"], apart := false, laid := [("loop.example/latimer/impl.forms", laid_loop_example_latimer_impl_forms)] }
def FnBlkFindSaid : Prop := fnBlkFindRow.holds Tryd.pinned (OpenSpec.ofChange fnBlkFindSpec)

/-- ITS FALSE NEIGHBOUR: 'it returns false'. Refute it at one input. -/
def fnBlkFindWrong : ChangeSpec := { name := "fnBlkFind", vars := ["loop.example/latimer/impl.forms"], fn := fun _ => fun
  | [d, g1] => { results := [.lit (.bool false)], args := [d], vars := [g1] }
  | _ => none }
def FnBlkFindWrongFalsely : Prop := fnBlkFindRow.holds Tryd.pinned (OpenSpec.ofChange fnBlkFindWrong)

/- THE SECOND FORM. 'bulk': how many values and letters a reading holds, each counted each time it is reached (what is shared counts as often as it is met; a slice's spare places count too). A statement '..UptoSaid' is the law's where the arguments, and the package variables that the reading takes, are together of bulk at most 1048576: NARROWER than '..Said'. Prove '..Said' where nothing that the law and all that it calls make is longer than what came in: it says more and counts as full. Else prove '..UptoSaid'. A law counts once. -/
mutual
def uptoBulk {H : Type} : DataW H → Nat
  | .lit (.string bytes) => bytes.length + 1
  | .lit _ => 1
  | .nil => 1
  | .ptr d => uptoBulk d + 1
  | .slice elems spare => uptoBulkAll elems + uptoBulkAll spare + 1
  | .agg parts => uptoBulkAll parts + 1
  | .iface _ d => uptoBulk d + 1
  | .map entries => uptoBulkEntries entries + 1
  | .held _ => 1
def uptoBulkAll {H : Type} : List (DataW H) → Nat
  | [] => 0
  | d :: r => uptoBulk d + uptoBulkAll r
def uptoBulkEntries {H : Type} : List (Lit × DataW H) → Nat
  | [] => 0
  | x :: r => uptoBulkEntry x + uptoBulkEntries r
def uptoBulkEntry {H : Type} : Lit × DataW H → Nat
  | (.string bytes, d) => bytes.length + uptoBulk d + 1
  | (_, d) => uptoBulk d + 1
 end
def uptoSmall : (H : Type) → List (DataW H) → Bool := fun _ ds => decide (uptoBulkAll ds ≤ 1048576)
def OpenSpec.upto (s : _root_.Go.ChangeSpec) : _root_.Go.OpenSpec := { _root_.Go.OpenSpec.ofChange s with cond := some uptoSmall }

/-- 'laws.FnBlkOk', WHERE WHAT IT READS IS OF BULK AT MOST 1048576: true; the input reads as it did. -/
def fnBlkOkUptoRow : OpenClaim := { program := "ytokibcicoomceaadoor", sum := "d2a7d450da8449eed113354f883e1df3c62dca1a6eb8e074e4e0e8f4d797e1a1", func := "loop.example/latimer/laws.FnBlkOk", spec := "fnBlkOk", named := ["loop.example/latimer/impl.forms"], apart := false, laid := [("loop.example/latimer/impl.forms", laid_loop_example_latimer_impl_forms)], narrowed := true }
def FnBlkOkUptoSaid : Prop := fnBlkOkUptoRow.holds Tryd.pinned (OpenSpec.upto fnBlkOkSpec)

/-- 'laws.FnBlkSize', WHERE WHAT IT READS IS OF BULK AT MOST 1048576: true; the input reads as it did. -/
def fnBlkSizeUptoRow : OpenClaim := { program := "ytokibcicoomceaadoor", sum := "d2a7d450da8449eed113354f883e1df3c62dca1a6eb8e074e4e0e8f4d797e1a1", func := "loop.example/latimer/laws.FnBlkSize", spec := "fnBlkSize", unfollowed := true, recurses := true, named := ["loop.example/latimer/impl.forms"], apart := false, laid := [("loop.example/latimer/impl.forms", laid_loop_example_latimer_impl_forms)], narrowed := true }
def FnBlkSizeUptoSaid : Prop := fnBlkSizeUptoRow.holds Tryd.pinned (OpenSpec.upto fnBlkSizeSpec)

/-- 'laws.FnBlkTake', WHERE WHAT IT READS IS OF BULK AT MOST 1048576: true; the input reads as it did. -/
def fnBlkTakeUptoRow : OpenClaim := { program := "ytokibcicoomceaadoor", sum := "d2a7d450da8449eed113354f883e1df3c62dca1a6eb8e074e4e0e8f4d797e1a1", func := "loop.example/latimer/laws.FnBlkTake", spec := "fnBlkTake", named := ["loop.example/latimer/impl.forms"], apart := false, laid := [("loop.example/latimer/impl.forms", laid_loop_example_latimer_impl_forms)], narrowed := true }
def FnBlkTakeUptoSaid : Prop := fnBlkTakeUptoRow.holds Tryd.pinned (OpenSpec.upto fnBlkTakeSpec)

/-- 'laws.FnExactBlkFind', WHERE WHAT IT READS IS OF BULK AT MOST 1048576: true; the input reads as it did. -/
def fnExactBlkFindUptoRow : OpenClaim := { program := "ytokibcicoomceaadoor", sum := "d2a7d450da8449eed113354f883e1df3c62dca1a6eb8e074e4e0e8f4d797e1a1", func := "loop.example/latimer/laws.FnExactBlkFind", spec := "fnExactBlkFind", named := ["loop.example/latimer/impl.forms"], apart := false, laid := [("loop.example/latimer/impl.forms", laid_loop_example_latimer_impl_forms)], narrowed := true }
def FnExactBlkFindUptoSaid : Prop := fnExactBlkFindUptoRow.holds Tryd.pinned (OpenSpec.upto fnExactBlkFindSpec)

/-- 'laws.FnExactBlkLower', WHERE WHAT IT READS IS OF BULK AT MOST 1048576: true; the input reads as it did. -/
def fnExactBlkLowerUptoRow : OpenClaim := { program := "ytokibcicoomceaadoor", sum := "d2a7d450da8449eed113354f883e1df3c62dca1a6eb8e074e4e0e8f4d797e1a1", func := "loop.example/latimer/laws.FnExactBlkLower", spec := "fnExactBlkLower", unfollowed := true, recurses := true, named := ["loop.example/latimer/impl.forms"], apart := false, laid := [("loop.example/latimer/impl.forms", laid_loop_example_latimer_impl_forms)], narrowed := true }
def FnExactBlkLowerUptoSaid : Prop := fnExactBlkLowerUptoRow.holds Tryd.pinned (OpenSpec.upto fnExactBlkLowerSpec)

/-- 'laws.FnBlkFind', WHERE WHAT IT READS IS OF BULK AT MOST 1048576: true; the input reads as it did. -/
def fnBlkFindUptoRow : OpenClaim := { program := "ytokibcicoomceaadoor", sum := "d2a7d450da8449eed113354f883e1df3c62dca1a6eb8e074e4e0e8f4d797e1a1", func := "loop.example/latimer/laws.FnBlkFind", spec := "fnBlkFind", named := ["loop.example/latimer/impl.forms"], apart := false, laid := [("loop.example/latimer/impl.forms", laid_loop_example_latimer_impl_forms)], narrowed := true }
def FnBlkFindUptoSaid : Prop := fnBlkFindUptoRow.holds Tryd.pinned (OpenSpec.upto fnBlkFindSpec)

end Rows
end Go.Proofs.YtokibcicoomceaaDoor
