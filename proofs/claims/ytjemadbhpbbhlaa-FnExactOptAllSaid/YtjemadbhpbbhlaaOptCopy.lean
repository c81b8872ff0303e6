/-
  A block with copies in the place of registers: both.
-/
import Derived.Test.YtjemadbhpbbhlaaCopyS
namespace Go.Proofs.Ytjemadbhpbbhlaa
open Go.RowKit

set_option linter.unusedVariables false
set_option linter.unusedSimpArgs false
set_option maxRecDepth 100000

theorem blk_optCopy (b : IrBlock) : Bulk.blk (optCopy b) ≤ Bulk.blk b := by
  rw [blk_ops, blk_ops]
  cases h : irOkB b with
  | true => rw [optCopy_eq h]; show (b.ops.map _).length ≤ _; rw [List.length_map]; exact Nat.le_refl _
  | false => rw [optCopy_no h]; exact Nat.zero_le _

end Go.Proofs.Ytjemadbhpbbhlaa
