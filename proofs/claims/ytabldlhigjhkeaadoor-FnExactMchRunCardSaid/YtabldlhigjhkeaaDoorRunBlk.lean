/-
  How many numbers a machine holds behind a run.
-/
import Derived.Test.YtabldlhigjhkeaaDoorMstBlk
namespace Go.Proofs.YtabldlhigjhkeaaDoor
open Go.RowKit

set_option linter.unusedVariables false
set_option linter.unusedSimpArgs false
set_option maxRecDepth 100000

theorem blk_mIter (irqs : List Int) : ∀ (k : Nat) (x : MchMach), MOk x → Bulk.blk (mIter irqs k x) ≤ Bulk.blk x + k
  | 0, x, _ => Nat.le_refl _
  | k + 1, x, hx => by
    cases hg : mGoes x
    · rw [mIter_stays hg]; omega
    · have ha := hx.act (mGoes_iff.1 hg).2 (hasI irqs x.count)
      have ih := blk_mIter irqs k _ ha
      have hl := mAct_lens x (hasI irqs x.count)
      rw [mIter_goes hg]
      rw [blk_mach (mAct x _), blk_mach x, ha.rl, ha.ml, hx.rl, hx.ml] at *
      omega
theorem blk_mRun (m : MchMach) (irqs : List Int) (n : Int) : Bulk.blk (mRun m irqs n) ≤ Bulk.blk m + 400 := by
  cases h : mchOkB m
  · rw [mRun_no h]; exact Nat.zero_le _
  · by_cases hn : 400 < n
    · rw [mRun_long hn]; exact Nat.zero_le _
    · rw [mRun_iter h (by omega)]
      have := blk_mIter irqs n.toNat m (mOk_iff.1 h)
      omega

end Go.Proofs.YtabldlhigjhkeaaDoor
