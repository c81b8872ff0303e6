/-
  How many numbers a value holds, against the lengths of its slices.
-/
import Derived.Test.YteaacelfnkiboaaMk
import Derived.Test.YteaacelfnkiboaaMarkLib
import Derived.Test.YteaacelfnkiboaaTy
namespace Go.Proofs.Yteaacelfnkiboaa
open Go.RowKit

set_option linter.unusedVariables false
set_option linter.unusedSimpArgs false
set_option maxRecDepth 100000

/-- As many numbers as its slices' lengths allow. -/
class CtB (α : Type) [Mk α] [Bulk α] : Prop where
  le : ∀ a : α, Mk.ct a ≤ 16 + 16 * Bulk.blk a
instance : CtB Int := ⟨fun _ => by show 1 ≤ _; omega⟩
instance : CtB Bool := ⟨fun _ => by show 1 ≤ _; omega⟩
instance : CtB UInt8 := ⟨fun _ => by show 1 ≤ _; omega⟩
theorem ct_le {α : Type} [Mk α] [Bulk α] [CtB α] (l : List α) : Mk.ct l ≤ 16 * Bulk.blk l := by
  show ctTo l l.length ≤ _
  induction l with
  | nil => simp [ctTo]
  | cons a l ih =>
    have h1 := CtB.le a
    rw [blk_list] at ih ⊢
    simp only [ctTo, List.length_cons, List.map_cons, List.sum_cons]
    omega
instance {α : Type} [Mk α] [Bulk α] [CtB α] : CtB (List α) := ⟨fun l => by have := ct_le l; omega⟩

instance : CtB IrOp := ⟨fun o => by show 1 + 1 + 1 + 1 + 1 ≤ 16 + 16 * (0); omega⟩

instance : CtB IrBlock := ⟨fun o => by show 1 + 1 + Mk.ct o.ops + 1 + 1 + 1 + 1 ≤ 16 + 16 * (Bulk.blk o.ops); have h0 := ct_le o.ops; omega⟩
theorem IrBlock.ctV_le (o : IrBlock) : IrBlock.ctV o ≤ 16 * Bulk.blk o := by show Mk.ct o.ops ≤ 16 * (Bulk.blk o.ops); have h0 := ct_le o.ops; omega

instance : CtB MchMach := ⟨fun o => by show Mk.ct o.regs + 1 + Mk.ct o.mem + 1 + 1 + 1 + 1 + Mk.ct o.ins + Mk.ct o.outs + 1 ≤ 16 + 16 * (Bulk.blk o.regs + Bulk.blk o.mem + Bulk.blk o.ins + Bulk.blk o.outs); have h0 := ct_le o.regs; have h1 := ct_le o.mem; have h2 := ct_le o.ins; have h3 := ct_le o.outs; omega⟩
theorem MchMach.ctV_le (o : MchMach) : MchMach.ctV o ≤ 16 * Bulk.blk o := by show Mk.ct o.regs + Mk.ct o.mem + Mk.ct o.ins + Mk.ct o.outs ≤ 16 * (Bulk.blk o.regs + Bulk.blk o.mem + Bulk.blk o.ins + Bulk.blk o.outs); have h0 := ct_le o.regs; have h1 := ct_le o.mem; have h2 := ct_le o.ins; have h3 := ct_le o.outs; omega

instance : CtB InsIns := ⟨fun o => by show 1 + 1 + 1 + 1 ≤ 16 + 16 * (0); omega⟩

end Go.Proofs.Yteaacelfnkiboaa
