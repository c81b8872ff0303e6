/-
  How many numbers a machine holds behind a run through a piece of code.
-/
import Derived.Test.YteaacelfnkiboaaRunILib
import Derived.Test.YteaacelfnkiboaaCt
namespace Go.Proofs.Yteaacelfnkiboaa
open Go.RowKit

set_option linter.unusedVariables false
set_option linter.unusedSimpArgs false
set_option maxRecDepth 100000

theorem blk_ints (l : List Int) : Bulk.blk l = l.length := blk_flat l (fun _ => rfl)
theorem blk_mach (m : MchMach) : Bulk.blk m = m.regs.length + m.mem.length + m.ins.length + m.outs.length := by
  show Bulk.blk m.regs + Bulk.blk m.mem + Bulk.blk m.ins + Bulk.blk m.outs = _
  rw [blk_ints, blk_ints, blk_ints, blk_ints]
theorem blk_irRun (b : IrBlock) (m : MchMach) : Bulk.blk (irRun b m) ≤ Bulk.blk m + 48 := by
  unfold irRun
  split
  · rename_i h
    split
    · have hb : irOkB b = true := by simp only [Bool.and_eq_true] at h; exact h.1
      have hn := ok_n hb
      have hl := rTo_lens b m b.ops.length (Nat.le_refl _)
      have he : ∀ s : RSt, (rEnd b s).regs = s.m.regs ∧ (rEnd b s).mem = s.m.mem ∧ (rEnd b s).ins = s.m.ins ∧ (rEnd b s).outs = s.m.outs := fun s => by unfold rEnd; split <;> simp
      have he := he (rTo b m b.ops.length)
      rw [blk_mach, blk_mach m, he.1, he.2.1, he.2.2.1, he.2.2.2]
      omega
    · omega
  · exact Nat.zero_le _

end Go.Proofs.Yteaacelfnkiboaa
