/-
  How many numbers the result holds.
-/
import Derived.Test.YtdmbgljkogpmdaaEndPure
import Derived.Test.YtdmbgljkogpmdaaCt
namespace Go.Proofs.Ytdmbgljkogpmdaa
open Go.RowKit

set_option linter.unusedVariables false
set_option linter.unusedSimpArgs false
set_option maxRecDepth 100000

theorem blk_sym (u : SymSym) : Bulk.blk u = Bulk.blk u.events + Bulk.blk u.regs + Bulk.blk u.x.monos + Bulk.blk u.y.monos := rfl
theorem blk_symEnd (u : SymSym) (b : Int) : Bulk.blk (symEnd u b) ≤ Bulk.blk u := by
  have h0 : Bulk.blk ([] : List TrmMono) = 0 := rfl
  have hgo : ∀ k, Bulk.blk (symGo u k) ≤ Bulk.blk u := fun k => by
    rw [blk_sym, blk_sym u]
    show Bulk.blk u.events + Bulk.blk u.regs + Bulk.blk ([] : List TrmMono) + Bulk.blk ([] : List TrmMono) ≤ _
    omega
  have hsw : Bulk.blk (symSwap u) ≤ Bulk.blk u := by
    rw [blk_sym, blk_sym u]
    show Bulk.blk u.events + Bulk.blk u.regs + Bulk.blk u.y.monos + Bulk.blk u.x.monos ≤ _
    omega
  unfold symEnd symIf
  repeat' split
  all_goals first | exact hgo _ | exact hsw | exact Nat.le_refl _ | exact Nat.zero_le _

end Go.Proofs.Ytdmbgljkogpmdaa
