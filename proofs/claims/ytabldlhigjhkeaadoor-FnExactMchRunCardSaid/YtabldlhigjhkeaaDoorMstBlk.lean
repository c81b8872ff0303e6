/-
  How many numbers a machine holds behind a step.
-/
import Derived.Test.YtabldlhigjhkeaaDoorRunLib
import Derived.Test.YtabldlhigjhkeaaDoorCt
namespace Go.Proofs.YtabldlhigjhkeaaDoor
open Go.RowKit

set_option linter.unusedVariables false
set_option linter.unusedSimpArgs false
set_option maxRecDepth 100000

theorem blk_ints (l : List Int) : Bulk.blk l = l.length := blk_flat l (fun _ => rfl)
theorem blk_mach (m : MchMach) : Bulk.blk m = m.regs.length + m.mem.length + m.ins.length + m.outs.length := by
  show Bulk.blk m.regs + Bulk.blk m.mem + Bulk.blk m.ins + Bulk.blk m.outs = _
  rw [blk_ints, blk_ints, blk_ints, blk_ints]
theorem blk_mStep (m : MchMach) (irq : Bool) : Bulk.blk (mStep m irq) ≤ Bulk.blk m + 1 := by
  cases h : mchOkB m
  · rw [mStep_no h]; exact Nat.zero_le _
  · cases hg : mGoes m
    · rw [mStep_stays h hg]; omega
    · have hk := mOk_iff.1 h
      have ha := hk.act (mGoes_iff.1 hg).2 irq
      have hl := mAct_lens m irq
      rw [mStep_goes h hg, blk_mach, blk_mach, ha.rl, ha.ml, hk.rl, hk.ml]
      omega

end Go.Proofs.YtabldlhigjhkeaaDoor
