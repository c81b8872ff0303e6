/-
  Operations are plain elements.
-/
import Derived.Test.YtokibcicoomceaaDoorGrewLib
import Derived.Test.YtokibcicoomceaaDoorWords
namespace Go.Proofs.YtokibcicoomceaaDoor
open Go.RowKit

set_option linter.unusedVariables false
set_option linter.unusedSimpArgs false
set_option maxRecDepth 100000

instance : Flat IrOp where
  pos := by decide
  flat h := ⟨h.1, h.2, rfl⟩
  one h u hu := by obtain ⟨rfl, _⟩ := h; simp at hu; rcases hu with rfl | rfl | rfl | rfl | rfl <;> rfl

theorem infIrOp : (Tryd.prog.info? 76).map (fun i => (i.zero, i.size, i.bytes)) = some (some (.agg #[.int .i64 0, .int .i64 0, .int .i64 0, .int .i64 0, .int .i64 0]), 5, 40) := by kernel_rfl

end Go.Proofs.YtokibcicoomceaaDoor
