/-
  No cell of these rows narrows 'for every input' (looked for: loops, veiled, ifaces, maps, wideKeys, modest, calm, conditions, laid).
  DERIVED. THE GIVEN ROWS OF THIS SEAT. 13 by the template 'for every input the law returns true; each argument reads behind the call as it read before'; 0 by the template 'total and deterministic' (their statements: YtjemadbhpbbhlaaTotals.lean).
  GIVEN WITH THE SEED: the statements are not yours to turn. If you find one false, say at which input.
  Laid BY PROGRAM, IN A SANDBOX (cutbox-rows.mjs): the forced cells as the released guide's own fill.sh prints them over the translation db6fa1c300c920a6… (all of the seat's roots in one cut). By AI agents, Wed Nov 11 2026. No macro, syntax, notation, axiom, sorry.
-/
import Derived.Test.YtjemadbhpbbhlaaChecked
import GoSem.Claim
import GoSem.ClaimJoined
import GoSem.ClaimMapViews
import Derived.JoinedTies
import Derived.KernelRfl
namespace Go.Proofs.Ytjemadbhpbbhlaa
/- THE CELL 'sum', in the pinned program and in every row, IS THE sha256 OF THE DUMP (.gsa) THAT YtjemadbhpbbhlaaProg.lean LOADS. Nothing in Lean hashes anything: it is a label: what it is worth is what the hold of that sum in a sandbox is worth. -/
noncomputable def Try.pinned : Pinned := { name := "ytjemadbhpbbhlaa", sum := "db6fa1c300c920a6e55e5bfc3ee6de47463f1c5d4370b0426e660a19a144feef", checked := Try.checked }
namespace Rows
def none {H : Type} : Left H := { results := [], args := [] }

/-- 'laws.FnExactIrBytes': WHATEVER THE INPUT: true; the input reads as it did. -/
def fnExactIrBytesSpec : ChangeSpec := { name := "fnExactIrBytes", fn := fun _ => fun
  | [d] => { results := [.lit (.bool true)], args := [d] }
  | _ => none }
def fnExactIrBytesRow : OpenClaim := { program := "ytjemadbhpbbhlaa", sum := "db6fa1c300c920a6e55e5bfc3ee6de47463f1c5d4370b0426e660a19a144feef", func := "loop.example/latimer/laws.FnExactIrBytes", spec := "fnExactIrBytes", apart := false }
def FnExactIrBytesSaid : Prop := fnExactIrBytesRow.holds Try.pinned (OpenSpec.ofChange fnExactIrBytesSpec)

/-- ITS FALSE NEIGHBOUR: 'it returns false'. Refute it at one input. -/
def fnExactIrBytesWrong : ChangeSpec := { name := "fnExactIrBytes", fn := fun _ => fun
  | [d] => { results := [.lit (.bool false)], args := [d] }
  | _ => none }
def FnExactIrBytesWrongFalsely : Prop := fnExactIrBytesRow.holds Try.pinned (OpenSpec.ofChange fnExactIrBytesWrong)

/-- 'laws.FnExactIrRead': WHATEVER THE INPUT: true; the input reads as it did. -/
def fnExactIrReadSpec : ChangeSpec := { name := "fnExactIrRead", fn := fun _ => fun
  | [d] => { results := [.lit (.bool true)], args := [d] }
  | _ => none }
def fnExactIrReadRow : OpenClaim := { program := "ytjemadbhpbbhlaa", sum := "db6fa1c300c920a6e55e5bfc3ee6de47463f1c5d4370b0426e660a19a144feef", func := "loop.example/latimer/laws.FnExactIrRead", spec := "fnExactIrRead", unfollowed := true, recurses := true, apart := false }
def FnExactIrReadSaid : Prop := fnExactIrReadRow.holds Try.pinned (OpenSpec.ofChange fnExactIrReadSpec)

/-- ITS FALSE NEIGHBOUR: 'it returns false'. Refute it at one input. -/
def fnExactIrReadWrong : ChangeSpec := { name := "fnExactIrRead", fn := fun _ => fun
  | [d] => { results := [.lit (.bool false)], args := [d] }
  | _ => none }
def FnExactIrReadWrongFalsely : Prop := fnExactIrReadRow.holds Try.pinned (OpenSpec.ofChange fnExactIrReadWrong)

/-- 'laws.FnExactOptUsed': WHATEVER THE INPUT: true; the input reads as it did. -/
def fnExactOptUsedSpec : ChangeSpec := { name := "fnExactOptUsed", fn := fun _ => fun
  | [d] => { results := [.lit (.bool true)], args := [d] }
  | _ => none }
def fnExactOptUsedRow : OpenClaim := { program := "ytjemadbhpbbhlaa", sum := "db6fa1c300c920a6e55e5bfc3ee6de47463f1c5d4370b0426e660a19a144feef", func := "loop.example/latimer/laws.FnExactOptUsed", spec := "fnExactOptUsed", apart := false }
def FnExactOptUsedSaid : Prop := fnExactOptUsedRow.holds Try.pinned (OpenSpec.ofChange fnExactOptUsedSpec)

/-- ITS FALSE NEIGHBOUR: 'it returns false'. Refute it at one input. -/
def fnExactOptUsedWrong : ChangeSpec := { name := "fnExactOptUsed", fn := fun _ => fun
  | [d] => { results := [.lit (.bool false)], args := [d] }
  | _ => none }
def FnExactOptUsedWrongFalsely : Prop := fnExactOptUsedRow.holds Try.pinned (OpenSpec.ofChange fnExactOptUsedWrong)

/-- 'laws.FnExactCerPut': WHATEVER THE INPUT: true; the input reads as it did. -/
def fnExactCerPutSpec : ChangeSpec := { name := "fnExactCerPut", fn := fun _ => fun
  | [d1, d2] => { results := [.lit (.bool true)], args := [d1, d2] }
  | _ => none }
def fnExactCerPutRow : OpenClaim := { program := "ytjemadbhpbbhlaa", sum := "db6fa1c300c920a6e55e5bfc3ee6de47463f1c5d4370b0426e660a19a144feef", func := "loop.example/latimer/laws.FnExactCerPut", spec := "fnExactCerPut", apart := false }
def FnExactCerPutSaid : Prop := fnExactCerPutRow.holds Try.pinned (OpenSpec.ofChange fnExactCerPutSpec)

/-- ITS FALSE NEIGHBOUR: 'it returns false'. Refute it at one input. -/
def fnExactCerPutWrong : ChangeSpec := { name := "fnExactCerPut", fn := fun _ => fun
  | [d1, d2] => { results := [.lit (.bool false)], args := [d1, d2] }
  | _ => none }
def FnExactCerPutWrongFalsely : Prop := fnExactCerPutRow.holds Try.pinned (OpenSpec.ofChange fnExactCerPutWrong)

/-- 'laws.FnExactOptCopy': WHATEVER THE INPUT: true; the input reads as it did. -/
def fnExactOptCopySpec : ChangeSpec := { name := "fnExactOptCopy", fn := fun _ => fun
  | [d] => { results := [.lit (.bool true)], args := [d] }
  | _ => none }
def fnExactOptCopyRow : OpenClaim := { program := "ytjemadbhpbbhlaa", sum := "db6fa1c300c920a6e55e5bfc3ee6de47463f1c5d4370b0426e660a19a144feef", func := "loop.example/latimer/laws.FnExactOptCopy", spec := "fnExactOptCopy", apart := false }
def FnExactOptCopySaid : Prop := fnExactOptCopyRow.holds Try.pinned (OpenSpec.ofChange fnExactOptCopySpec)

/-- ITS FALSE NEIGHBOUR: 'it returns false'. Refute it at one input. -/
def fnExactOptCopyWrong : ChangeSpec := { name := "fnExactOptCopy", fn := fun _ => fun
  | [d] => { results := [.lit (.bool false)], args := [d] }
  | _ => none }
def FnExactOptCopyWrongFalsely : Prop := fnExactOptCopyRow.holds Try.pinned (OpenSpec.ofChange fnExactOptCopyWrong)

/-- 'laws.FnExactOptSets': WHATEVER THE INPUT: true; the input reads as it did. -/
def fnExactOptSetsSpec : ChangeSpec := { name := "fnExactOptSets", fn := fun _ => fun
  | [d] => { results := [.lit (.bool true)], args := [d] }
  | _ => none }
def fnExactOptSetsRow : OpenClaim := { program := "ytjemadbhpbbhlaa", sum := "db6fa1c300c920a6e55e5bfc3ee6de47463f1c5d4370b0426e660a19a144feef", func := "loop.example/latimer/laws.FnExactOptSets", spec := "fnExactOptSets", apart := false }
def FnExactOptSetsSaid : Prop := fnExactOptSetsRow.holds Try.pinned (OpenSpec.ofChange fnExactOptSetsSpec)

/-- ITS FALSE NEIGHBOUR: 'it returns false'. Refute it at one input. -/
def fnExactOptSetsWrong : ChangeSpec := { name := "fnExactOptSets", fn := fun _ => fun
  | [d] => { results := [.lit (.bool false)], args := [d] }
  | _ => none }
def FnExactOptSetsWrongFalsely : Prop := fnExactOptSetsRow.holds Try.pinned (OpenSpec.ofChange fnExactOptSetsWrong)

/-- 'laws.FnExactCacPut': WHATEVER THE INPUT: true; the input reads as it did. -/
def fnExactCacPutSpec : ChangeSpec := { name := "fnExactCacPut", fn := fun _ => fun
  | [d1, d2] => { results := [.lit (.bool true)], args := [d1, d2] }
  | _ => none }
def fnExactCacPutRow : OpenClaim := { program := "ytjemadbhpbbhlaa", sum := "db6fa1c300c920a6e55e5bfc3ee6de47463f1c5d4370b0426e660a19a144feef", func := "loop.example/latimer/laws.FnExactCacPut", spec := "fnExactCacPut", unfollowed := true, recurses := true, apart := false }
def FnExactCacPutSaid : Prop := fnExactCacPutRow.holds Try.pinned (OpenSpec.ofChange fnExactCacPutSpec)

/-- ITS FALSE NEIGHBOUR: 'it returns false'. Refute it at one input. -/
def fnExactCacPutWrong : ChangeSpec := { name := "fnExactCacPut", fn := fun _ => fun
  | [d1, d2] => { results := [.lit (.bool false)], args := [d1, d2] }
  | _ => none }
def FnExactCacPutWrongFalsely : Prop := fnExactCacPutRow.holds Try.pinned (OpenSpec.ofChange fnExactCacPutWrong)

/-- 'laws.FnExactOptConst': WHATEVER THE INPUT: true; the input reads as it did. -/
def fnExactOptConstSpec : ChangeSpec := { name := "fnExactOptConst", fn := fun _ => fun
  | [d] => { results := [.lit (.bool true)], args := [d] }
  | _ => none }
def fnExactOptConstRow : OpenClaim := { program := "ytjemadbhpbbhlaa", sum := "db6fa1c300c920a6e55e5bfc3ee6de47463f1c5d4370b0426e660a19a144feef", func := "loop.example/latimer/laws.FnExactOptConst", spec := "fnExactOptConst", unfollowed := true, recurses := true, apart := false }
def FnExactOptConstSaid : Prop := fnExactOptConstRow.holds Try.pinned (OpenSpec.ofChange fnExactOptConstSpec)

/-- ITS FALSE NEIGHBOUR: 'it returns false'. Refute it at one input. -/
def fnExactOptConstWrong : ChangeSpec := { name := "fnExactOptConst", fn := fun _ => fun
  | [d] => { results := [.lit (.bool false)], args := [d] }
  | _ => none }
def FnExactOptConstWrongFalsely : Prop := fnExactOptConstRow.holds Try.pinned (OpenSpec.ofChange fnExactOptConstWrong)

/-- 'laws.FnExactOptDead': WHATEVER THE INPUT: true; the input reads as it did. -/
def fnExactOptDeadSpec : ChangeSpec := { name := "fnExactOptDead", fn := fun _ => fun
  | [d] => { results := [.lit (.bool true)], args := [d] }
  | _ => none }
def fnExactOptDeadRow : OpenClaim := { program := "ytjemadbhpbbhlaa", sum := "db6fa1c300c920a6e55e5bfc3ee6de47463f1c5d4370b0426e660a19a144feef", func := "loop.example/latimer/laws.FnExactOptDead", spec := "fnExactOptDead", apart := false }
def FnExactOptDeadSaid : Prop := fnExactOptDeadRow.holds Try.pinned (OpenSpec.ofChange fnExactOptDeadSpec)

/-- ITS FALSE NEIGHBOUR: 'it returns false'. Refute it at one input. -/
def fnExactOptDeadWrong : ChangeSpec := { name := "fnExactOptDead", fn := fun _ => fun
  | [d] => { results := [.lit (.bool false)], args := [d] }
  | _ => none }
def FnExactOptDeadWrongFalsely : Prop := fnExactOptDeadRow.holds Try.pinned (OpenSpec.ofChange fnExactOptDeadWrong)

/-- 'laws.FnExactCacDrop': WHATEVER THE INPUT: true; the input reads as it did. -/
def fnExactCacDropSpec : ChangeSpec := { name := "fnExactCacDrop", fn := fun _ => fun
  | [d1, d2] => { results := [.lit (.bool true)], args := [d1, d2] }
  | _ => none }
def fnExactCacDropRow : OpenClaim := { program := "ytjemadbhpbbhlaa", sum := "db6fa1c300c920a6e55e5bfc3ee6de47463f1c5d4370b0426e660a19a144feef", func := "loop.example/latimer/laws.FnExactCacDrop", spec := "fnExactCacDrop", unfollowed := true, recurses := true, apart := false }
def FnExactCacDropSaid : Prop := fnExactCacDropRow.holds Try.pinned (OpenSpec.ofChange fnExactCacDropSpec)

/-- ITS FALSE NEIGHBOUR: 'it returns false'. Refute it at one input. -/
def fnExactCacDropWrong : ChangeSpec := { name := "fnExactCacDrop", fn := fun _ => fun
  | [d1, d2] => { results := [.lit (.bool false)], args := [d1, d2] }
  | _ => none }
def FnExactCacDropWrongFalsely : Prop := fnExactCacDropRow.holds Try.pinned (OpenSpec.ofChange fnExactCacDropWrong)

/-- 'laws.FnExactOptAll': WHATEVER THE INPUT: true; the input reads as it did. -/
def fnExactOptAllSpec : ChangeSpec := { name := "fnExactOptAll", fn := fun _ => fun
  | [d] => { results := [.lit (.bool true)], args := [d] }
  | _ => none }
def fnExactOptAllRow : OpenClaim := { program := "ytjemadbhpbbhlaa", sum := "db6fa1c300c920a6e55e5bfc3ee6de47463f1c5d4370b0426e660a19a144feef", func := "loop.example/latimer/laws.FnExactOptAll", spec := "fnExactOptAll", unfollowed := true, recurses := true, apart := false }
def FnExactOptAllSaid : Prop := fnExactOptAllRow.holds Try.pinned (OpenSpec.ofChange fnExactOptAllSpec)

/-- ITS FALSE NEIGHBOUR: 'it returns false'. Refute it at one input. -/
def fnExactOptAllWrong : ChangeSpec := { name := "fnExactOptAll", fn := fun _ => fun
  | [d] => { results := [.lit (.bool false)], args := [d] }
  | _ => none }
def FnExactOptAllWrongFalsely : Prop := fnExactOptAllRow.holds Try.pinned (OpenSpec.ofChange fnExactOptAllWrong)

/-- 'laws.FnIrSame': WHATEVER THE INPUT: true; the input reads as it did. -/
def fnIrSameSpec : ChangeSpec := { name := "fnIrSame", fn := fun _ => fun
  | [d] => { results := [.lit (.bool true)], args := [d] }
  | _ => none }
def fnIrSameRow : OpenClaim := { program := "ytjemadbhpbbhlaa", sum := "db6fa1c300c920a6e55e5bfc3ee6de47463f1c5d4370b0426e660a19a144feef", func := "loop.example/latimer/laws.FnIrSame", spec := "fnIrSame", apart := false }
def FnIrSameSaid : Prop := fnIrSameRow.holds Try.pinned (OpenSpec.ofChange fnIrSameSpec)

/-- ITS FALSE NEIGHBOUR: 'it returns false'. Refute it at one input. -/
def fnIrSameWrong : ChangeSpec := { name := "fnIrSame", fn := fun _ => fun
  | [d] => { results := [.lit (.bool false)], args := [d] }
  | _ => none }
def FnIrSameWrongFalsely : Prop := fnIrSameRow.holds Try.pinned (OpenSpec.ofChange fnIrSameWrong)

/-- 'laws.FnIrBytes': WHATEVER THE INPUT: true; the input reads as it did. -/
def fnIrBytesSpec : ChangeSpec := { name := "fnIrBytes", fn := fun _ => fun
  | [d1, d2] => { results := [.lit (.bool true)], args := [d1, d2] }
  | _ => none }
def fnIrBytesRow : OpenClaim := { program := "ytjemadbhpbbhlaa", sum := "db6fa1c300c920a6e55e5bfc3ee6de47463f1c5d4370b0426e660a19a144feef", func := "loop.example/latimer/laws.FnIrBytes", spec := "fnIrBytes", unfollowed := true, recurses := true, apart := false }
def FnIrBytesSaid : Prop := fnIrBytesRow.holds Try.pinned (OpenSpec.ofChange fnIrBytesSpec)

/-- ITS FALSE NEIGHBOUR: 'it returns false'. Refute it at one input. -/
def fnIrBytesWrong : ChangeSpec := { name := "fnIrBytes", fn := fun _ => fun
  | [d1, d2] => { results := [.lit (.bool false)], args := [d1, d2] }
  | _ => none }
def FnIrBytesWrongFalsely : Prop := fnIrBytesRow.holds Try.pinned (OpenSpec.ofChange fnIrBytesWrong)

/- THE SECOND FORM. 'bulk': how many values and letters a reading holds, each counted each time it is reached (what is shared counts as often as it is met; a slice's spare places count too). A statement '..UptoSaid' is the law's where the arguments, and the package variables that the reading takes, are together of bulk at most 1048576: NARROWER than '..Said'. Prove '..Said' where nothing that the law and all that it calls make is longer than what came in: it says more and counts as full. Else prove '..UptoSaid'. A law counts once. -/
mutual
def uptoBulk {H : Type} : DataW H → Nat
  | .lit (.string bytes) => bytes.length + 1
  | .lit _ => 1
  | .nil => 1
  | .ptr d => uptoBulk d + 1
  | .slice elems spare => uptoBulkAll elems + uptoBulkAll spare + 1
  | .agg parts => uptoBulkAll parts + 1
  | .iface _ d => uptoBulk d + 1
  | .map entries => uptoBulkEntries entries + 1
  | .held _ => 1
def uptoBulkAll {H : Type} : List (DataW H) → Nat
  | [] => 0
  | d :: r => uptoBulk d + uptoBulkAll r
def uptoBulkEntries {H : Type} : List (Lit × DataW H) → Nat
  | [] => 0
  | x :: r => uptoBulkEntry x + uptoBulkEntries r
def uptoBulkEntry {H : Type} : Lit × DataW H → Nat
  | (.string bytes, d) => bytes.length + uptoBulk d + 1
  | (_, d) => uptoBulk d + 1
 end
def uptoSmall : (H : Type) → List (DataW H) → Bool := fun _ ds => decide (uptoBulkAll ds ≤ 1048576)
def OpenSpec.upto (s : _root_.Go.ChangeSpec) : _root_.Go.OpenSpec := { _root_.Go.OpenSpec.ofChange s with cond := some uptoSmall }

/-- 'laws.FnExactIrBytes', WHERE WHAT IT READS IS OF BULK AT MOST 1048576: true; the input reads as it did. -/
def fnExactIrBytesUptoRow : OpenClaim := { program := "ytjemadbhpbbhlaa", sum := "db6fa1c300c920a6e55e5bfc3ee6de47463f1c5d4370b0426e660a19a144feef", func := "loop.example/latimer/laws.FnExactIrBytes", spec := "fnExactIrBytes", apart := false, narrowed := true }
def FnExactIrBytesUptoSaid : Prop := fnExactIrBytesUptoRow.holds Try.pinned (OpenSpec.upto fnExactIrBytesSpec)

/-- 'laws.FnExactIrRead', WHERE WHAT IT READS IS OF BULK AT MOST 1048576: true; the input reads as it did. -/
def fnExactIrReadUptoRow : OpenClaim := { program := "ytjemadbhpbbhlaa", sum := "db6fa1c300c920a6e55e5bfc3ee6de47463f1c5d4370b0426e660a19a144feef", func := "loop.example/latimer/laws.FnExactIrRead", spec := "fnExactIrRead", unfollowed := true, recurses := true, apart := false, narrowed := true }
def FnExactIrReadUptoSaid : Prop := fnExactIrReadUptoRow.holds Try.pinned (OpenSpec.upto fnExactIrReadSpec)

/-- 'laws.FnExactOptUsed', WHERE WHAT IT READS IS OF BULK AT MOST 1048576: true; the input reads as it did. -/
def fnExactOptUsedUptoRow : OpenClaim := { program := "ytjemadbhpbbhlaa", sum := "db6fa1c300c920a6e55e5bfc3ee6de47463f1c5d4370b0426e660a19a144feef", func := "loop.example/latimer/laws.FnExactOptUsed", spec := "fnExactOptUsed", apart := false, narrowed := true }
def FnExactOptUsedUptoSaid : Prop := fnExactOptUsedUptoRow.holds Try.pinned (OpenSpec.upto fnExactOptUsedSpec)

/-- 'laws.FnExactCerPut', WHERE WHAT IT READS IS OF BULK AT MOST 1048576: true; the input reads as it did. -/
def fnExactCerPutUptoRow : OpenClaim := { program := "ytjemadbhpbbhlaa", sum := "db6fa1c300c920a6e55e5bfc3ee6de47463f1c5d4370b0426e660a19a144feef", func := "loop.example/latimer/laws.FnExactCerPut", spec := "fnExactCerPut", apart := false, narrowed := true }
def FnExactCerPutUptoSaid : Prop := fnExactCerPutUptoRow.holds Try.pinned (OpenSpec.upto fnExactCerPutSpec)

/-- 'laws.FnExactOptCopy', WHERE WHAT IT READS IS OF BULK AT MOST 1048576: true; the input reads as it did. -/
def fnExactOptCopyUptoRow : OpenClaim := { program := "ytjemadbhpbbhlaa", sum := "db6fa1c300c920a6e55e5bfc3ee6de47463f1c5d4370b0426e660a19a144feef", func := "loop.example/latimer/laws.FnExactOptCopy", spec := "fnExactOptCopy", apart := false, narrowed := true }
def FnExactOptCopyUptoSaid : Prop := fnExactOptCopyUptoRow.holds Try.pinned (OpenSpec.upto fnExactOptCopySpec)

/-- 'laws.FnExactOptSets', WHERE WHAT IT READS IS OF BULK AT MOST 1048576: true; the input reads as it did. -/
def fnExactOptSetsUptoRow : OpenClaim := { program := "ytjemadbhpbbhlaa", sum := "db6fa1c300c920a6e55e5bfc3ee6de47463f1c5d4370b0426e660a19a144feef", func := "loop.example/latimer/laws.FnExactOptSets", spec := "fnExactOptSets", apart := false, narrowed := true }
def FnExactOptSetsUptoSaid : Prop := fnExactOptSetsUptoRow.holds Try.pinned (OpenSpec.upto fnExactOptSetsSpec)

/-- 'laws.FnExactCacPut', WHERE WHAT IT READS IS OF BULK AT MOST 1048576: true; the input reads as it did. -/
def fnExactCacPutUptoRow : OpenClaim := { program := "ytjemadbhpbbhlaa", sum := "db6fa1c300c920a6e55e5bfc3ee6de47463f1c5d4370b0426e660a19a144feef", func := "loop.example/latimer/laws.FnExactCacPut", spec := "fnExactCacPut", unfollowed := true, recurses := true, apart := false, narrowed := true }
def FnExactCacPutUptoSaid : Prop := fnExactCacPutUptoRow.holds Try.pinned (OpenSpec.upto fnExactCacPutSpec)

/-- 'laws.FnExactOptConst', WHERE WHAT IT READS IS OF BULK AT MOST 1048576: true; the input reads as it did. -/
def fnExactOptConstUptoRow : OpenClaim := { program := "ytjemadbhpbbhlaa", sum := "db6fa1c300c920a6e55e5bfc3ee6de47463f1c5d4370b0426e660a19a144feef", func := "loop.example/latimer/laws.FnExactOptConst", spec := "fnExactOptConst", unfollowed := true, recurses := true, apart := false, narrowed := true }
def FnExactOptConstUptoSaid : Prop := fnExactOptConstUptoRow.holds Try.pinned (OpenSpec.upto fnExactOptConstSpec)

/-- 'laws.FnExactOptDead', WHERE WHAT IT READS IS OF BULK AT MOST 1048576: true; the input reads as it did. -/
def fnExactOptDeadUptoRow : OpenClaim := { program := "ytjemadbhpbbhlaa", sum := "db6fa1c300c920a6e55e5bfc3ee6de47463f1c5d4370b0426e660a19a144feef", func := "loop.example/latimer/laws.FnExactOptDead", spec := "fnExactOptDead", apart := false, narrowed := true }
def FnExactOptDeadUptoSaid : Prop := fnExactOptDeadUptoRow.holds Try.pinned (OpenSpec.upto fnExactOptDeadSpec)

/-- 'laws.FnExactCacDrop', WHERE WHAT IT READS IS OF BULK AT MOST 1048576: true; the input reads as it did. -/
def fnExactCacDropUptoRow : OpenClaim := { program := "ytjemadbhpbbhlaa", sum := "db6fa1c300c920a6e55e5bfc3ee6de47463f1c5d4370b0426e660a19a144feef", func := "loop.example/latimer/laws.FnExactCacDrop", spec := "fnExactCacDrop", unfollowed := true, recurses := true, apart := false, narrowed := true }
def FnExactCacDropUptoSaid : Prop := fnExactCacDropUptoRow.holds Try.pinned (OpenSpec.upto fnExactCacDropSpec)

/-- 'laws.FnExactOptAll', WHERE WHAT IT READS IS OF BULK AT MOST 1048576: true; the input reads as it did. -/
def fnExactOptAllUptoRow : OpenClaim := { program := "ytjemadbhpbbhlaa", sum := "db6fa1c300c920a6e55e5bfc3ee6de47463f1c5d4370b0426e660a19a144feef", func := "loop.example/latimer/laws.FnExactOptAll", spec := "fnExactOptAll", unfollowed := true, recurses := true, apart := false, narrowed := true }
def FnExactOptAllUptoSaid : Prop := fnExactOptAllUptoRow.holds Try.pinned (OpenSpec.upto fnExactOptAllSpec)

/-- 'laws.FnIrSame', WHERE WHAT IT READS IS OF BULK AT MOST 1048576: true; the input reads as it did. -/
def fnIrSameUptoRow : OpenClaim := { program := "ytjemadbhpbbhlaa", sum := "db6fa1c300c920a6e55e5bfc3ee6de47463f1c5d4370b0426e660a19a144feef", func := "loop.example/latimer/laws.FnIrSame", spec := "fnIrSame", apart := false, narrowed := true }
def FnIrSameUptoSaid : Prop := fnIrSameUptoRow.holds Try.pinned (OpenSpec.upto fnIrSameSpec)

/-- 'laws.FnIrBytes', WHERE WHAT IT READS IS OF BULK AT MOST 1048576: true; the input reads as it did. -/
def fnIrBytesUptoRow : OpenClaim := { program := "ytjemadbhpbbhlaa", sum := "db6fa1c300c920a6e55e5bfc3ee6de47463f1c5d4370b0426e660a19a144feef", func := "loop.example/latimer/laws.FnIrBytes", spec := "fnIrBytes", unfollowed := true, recurses := true, apart := false, narrowed := true }
def FnIrBytesUptoSaid : Prop := fnIrBytesUptoRow.holds Try.pinned (OpenSpec.upto fnIrBytesSpec)

end Rows
end Go.Proofs.Ytjemadbhpbbhlaa
