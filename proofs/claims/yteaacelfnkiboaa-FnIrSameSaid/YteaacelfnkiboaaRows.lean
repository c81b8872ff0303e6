/-
  No cell of these rows narrows 'for every input' (looked for: loops, veiled, ifaces, maps, wideKeys, modest, calm, conditions, laid).
  DERIVED. THE GIVEN ROWS OF THIS SEAT. 4 by the template 'for every input the law returns true; each argument reads behind the call as it read before'; 0 by the template 'total and deterministic' (their statements: YteaacelfnkiboaaTotals.lean).
  GIVEN WITH THE SEED: the statements are not yours to turn. If you find one false, say at which input.
  Laid BY PROGRAM, IN A SANDBOX (cutbox-rows.mjs): the forced cells as the released guide's own fill.sh prints them over the translation eb16dc0f01c63573… (all of the seat's roots in one cut). By AI agents, Wed Nov 11 2026. No macro, syntax, notation, axiom, sorry.
-/
import Derived.Test.YteaacelfnkiboaaChecked
import GoSem.Claim
import GoSem.ClaimJoined
import GoSem.ClaimMapViews
import Derived.JoinedTies
import Derived.KernelRfl
namespace Go.Proofs.Yteaacelfnkiboaa
/- THE CELL 'sum', in the pinned program and in every row, IS THE sha256 OF THE DUMP (.gsa) THAT YteaacelfnkiboaaProg.lean LOADS. Nothing in Lean hashes anything: it is a label: what it is worth is what the hold of that sum in a sandbox is worth. -/
noncomputable def Try.pinned : Pinned := { name := "yteaacelfnkiboaa", sum := "eb16dc0f01c63573380ae1584ffd9d29dc6c81d1419482a85d7427706463a7c2", checked := Try.checked }
namespace Rows
def none {H : Type} : Left H := { results := [], args := [] }

/-- 'laws.FnIrSame': WHATEVER THE INPUT: true; the input reads as it did. -/
def fnIrSameSpec : ChangeSpec := { name := "fnIrSame", fn := fun _ => fun
  | [d] => { results := [.lit (.bool true)], args := [d] }
  | _ => none }
def fnIrSameRow : OpenClaim := { program := "yteaacelfnkiboaa", sum := "eb16dc0f01c63573380ae1584ffd9d29dc6c81d1419482a85d7427706463a7c2", func := "loop.example/latimer/laws.FnIrSame", spec := "fnIrSame", apart := false }
def FnIrSameSaid : Prop := fnIrSameRow.holds Try.pinned (OpenSpec.ofChange fnIrSameSpec)

/-- ITS FALSE NEIGHBOUR: 'it returns false'. Refute it at one input. -/
def fnIrSameWrong : ChangeSpec := { name := "fnIrSame", fn := fun _ => fun
  | [d] => { results := [.lit (.bool false)], args := [d] }
  | _ => none }
def FnIrSameWrongFalsely : Prop := fnIrSameRow.holds Try.pinned (OpenSpec.ofChange fnIrSameWrong)

/-- 'laws.FnIrBytes': WHATEVER THE INPUT: true; the input reads as it did. -/
def fnIrBytesSpec : ChangeSpec := { name := "fnIrBytes", fn := fun _ => fun
  | [d1, d2] => { results := [.lit (.bool true)], args := [d1, d2] }
  | _ => none }
def fnIrBytesRow : OpenClaim := { program := "yteaacelfnkiboaa", sum := "eb16dc0f01c63573380ae1584ffd9d29dc6c81d1419482a85d7427706463a7c2", func := "loop.example/latimer/laws.FnIrBytes", spec := "fnIrBytes", unfollowed := true, recurses := true, apart := false }
def FnIrBytesSaid : Prop := fnIrBytesRow.holds Try.pinned (OpenSpec.ofChange fnIrBytesSpec)

/-- ITS FALSE NEIGHBOUR: 'it returns false'. Refute it at one input. -/
def fnIrBytesWrong : ChangeSpec := { name := "fnIrBytes", fn := fun _ => fun
  | [d1, d2] => { results := [.lit (.bool false)], args := [d1, d2] }
  | _ => none }
def FnIrBytesWrongFalsely : Prop := fnIrBytesRow.holds Try.pinned (OpenSpec.ofChange fnIrBytesWrong)

/-- 'laws.FnExactIrRun': WHATEVER THE INPUT: true; the input reads as it did. -/
def fnExactIrRunSpec : ChangeSpec := { name := "fnExactIrRun", fn := fun _ => fun
  | [d1, d2] => { results := [.lit (.bool true)], args := [d1, d2] }
  | _ => none }
def fnExactIrRunRow : OpenClaim := { program := "yteaacelfnkiboaa", sum := "eb16dc0f01c63573380ae1584ffd9d29dc6c81d1419482a85d7427706463a7c2", func := "loop.example/latimer/laws.FnExactIrRun", spec := "fnExactIrRun", apart := false }
def FnExactIrRunSaid : Prop := fnExactIrRunRow.holds Try.pinned (OpenSpec.ofChange fnExactIrRunSpec)

/-- ITS FALSE NEIGHBOUR: 'it returns false'. Refute it at one input. -/
def fnExactIrRunWrong : ChangeSpec := { name := "fnExactIrRun", fn := fun _ => fun
  | [d1, d2] => { results := [.lit (.bool false)], args := [d1, d2] }
  | _ => none }
def FnExactIrRunWrongFalsely : Prop := fnExactIrRunRow.holds Try.pinned (OpenSpec.ofChange fnExactIrRunWrong)

/-- 'laws.FnIrStore': WHATEVER THE INPUT: true; the input reads as it did. -/
def fnIrStoreSpec : ChangeSpec := { name := "fnIrStore", fn := fun _ => fun
  | [d] => { results := [.lit (.bool true)], args := [d] }
  | _ => none }
def fnIrStoreRow : OpenClaim := { program := "yteaacelfnkiboaa", sum := "eb16dc0f01c63573380ae1584ffd9d29dc6c81d1419482a85d7427706463a7c2", func := "loop.example/latimer/laws.FnIrStore", spec := "fnIrStore", apart := false }
def FnIrStoreSaid : Prop := fnIrStoreRow.holds Try.pinned (OpenSpec.ofChange fnIrStoreSpec)

/-- ITS FALSE NEIGHBOUR: 'it returns false'. Refute it at one input. -/
def fnIrStoreWrong : ChangeSpec := { name := "fnIrStore", fn := fun _ => fun
  | [d] => { results := [.lit (.bool false)], args := [d] }
  | _ => none }
def FnIrStoreWrongFalsely : Prop := fnIrStoreRow.holds Try.pinned (OpenSpec.ofChange fnIrStoreWrong)

/- THE SECOND FORM. 'bulk': how many values and letters a reading holds, each counted each time it is reached (what is shared counts as often as it is met; a slice's spare places count too). A statement '..UptoSaid' is the law's where the arguments, and the package variables that the reading takes, are together of bulk at most 1048576: NARROWER than '..Said'. Prove '..Said' where nothing that the law and all that it calls make is longer than what came in: it says more and counts as full. Else prove '..UptoSaid'. A law counts once. -/
mutual
def uptoBulk {H : Type} : DataW H → Nat
  | .lit (.string bytes) => bytes.length + 1
  | .lit _ => 1
  | .nil => 1
  | .ptr d => uptoBulk d + 1
  | .slice elems spare => uptoBulkAll elems + uptoBulkAll spare + 1
  | .agg parts => uptoBulkAll parts + 1
  | .iface _ d => uptoBulk d + 1
  | .map entries => uptoBulkEntries entries + 1
  | .held _ => 1
def uptoBulkAll {H : Type} : List (DataW H) → Nat
  | [] => 0
  | d :: r => uptoBulk d + uptoBulkAll r
def uptoBulkEntries {H : Type} : List (Lit × DataW H) → Nat
  | [] => 0
  | x :: r => uptoBulkEntry x + uptoBulkEntries r
def uptoBulkEntry {H : Type} : Lit × DataW H → Nat
  | (.string bytes, d) => bytes.length + uptoBulk d + 1
  | (_, d) => uptoBulk d + 1
 end
def uptoSmall : (H : Type) → List (DataW H) → Bool := fun _ ds => decide (uptoBulkAll ds ≤ 1048576)
def OpenSpec.upto (s : _root_.Go.ChangeSpec) : _root_.Go.OpenSpec := { _root_.Go.OpenSpec.ofChange s with cond := some uptoSmall }

/-- 'laws.FnIrSame', WHERE WHAT IT READS IS OF BULK AT MOST 1048576: true; the input reads as it did. -/
def fnIrSameUptoRow : OpenClaim := { program := "yteaacelfnkiboaa", sum := "eb16dc0f01c63573380ae1584ffd9d29dc6c81d1419482a85d7427706463a7c2", func := "loop.example/latimer/laws.FnIrSame", spec := "fnIrSame", apart := false, narrowed := true }
def FnIrSameUptoSaid : Prop := fnIrSameUptoRow.holds Try.pinned (OpenSpec.upto fnIrSameSpec)

/-- 'laws.FnIrBytes', WHERE WHAT IT READS IS OF BULK AT MOST 1048576: true; the input reads as it did. -/
def fnIrBytesUptoRow : OpenClaim := { program := "yteaacelfnkiboaa", sum := "eb16dc0f01c63573380ae1584ffd9d29dc6c81d1419482a85d7427706463a7c2", func := "loop.example/latimer/laws.FnIrBytes", spec := "fnIrBytes", unfollowed := true, recurses := true, apart := false, narrowed := true }
def FnIrBytesUptoSaid : Prop := fnIrBytesUptoRow.holds Try.pinned (OpenSpec.upto fnIrBytesSpec)

/-- 'laws.FnExactIrRun', WHERE WHAT IT READS IS OF BULK AT MOST 1048576: true; the input reads as it did. -/
def fnExactIrRunUptoRow : OpenClaim := { program := "yteaacelfnkiboaa", sum := "eb16dc0f01c63573380ae1584ffd9d29dc6c81d1419482a85d7427706463a7c2", func := "loop.example/latimer/laws.FnExactIrRun", spec := "fnExactIrRun", apart := false, narrowed := true }
def FnExactIrRunUptoSaid : Prop := fnExactIrRunUptoRow.holds Try.pinned (OpenSpec.upto fnExactIrRunSpec)

/-- 'laws.FnIrStore', WHERE WHAT IT READS IS OF BULK AT MOST 1048576: true; the input reads as it did. -/
def fnIrStoreUptoRow : OpenClaim := { program := "yteaacelfnkiboaa", sum := "eb16dc0f01c63573380ae1584ffd9d29dc6c81d1419482a85d7427706463a7c2", func := "loop.example/latimer/laws.FnIrStore", spec := "fnIrStore", apart := false, narrowed := true }
def FnIrStoreUptoSaid : Prop := fnIrStoreUptoRow.holds Try.pinned (OpenSpec.upto fnIrStoreSpec)

end Rows
end Go.Proofs.Yteaacelfnkiboaa
