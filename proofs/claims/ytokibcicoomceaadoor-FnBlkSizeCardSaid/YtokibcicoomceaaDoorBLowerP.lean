/-
  Instructions as operations, as the laws call it.
-/
import Derived.Test.YtokibcicoomceaaDoorLowK
import Derived.Test.YtokibcicoomceaaDoorSz
namespace Go.Proofs.YtokibcicoomceaaDoor
open Go.RowKit

set_option linter.unusedVariables false
set_option linter.unusedSimpArgs false
set_option maxRecDepth 100000

theorem specBlkLower_p (pc : Int) (list : List InsIns) (v : Value) (w : World) (h : Sl w (Old w) v list) (hp : Fits pc) :
    Calls Tryd.prog 37 #[.int .i64 pc, v] w fun e w' => ∃ (r1 : Value) (F : List Nat), e = .returned (.agg #[.int .i64 ((blkLower pc list).pc), .int .i64 ((blkLower pc list).len), r1, .int .i64 ((blkLower pc list).fin), .int .i64 ((blkLower pc list).x), .int .i64 ((blkLower pc list).y), .int .i64 ((blkLower pc list).k)]) ∧ OwnSl w' r1 (blkLower pc list).ops F ∧ Fr w w' F ∧ Ext w w' :=
  (specBlkLower_any pc list v w h hp).mono fun e w' ⟨A, c, he, hG, hE⟩ => by
    obtain ⟨F, hO, hF⟩ := hG.ownF
    exact ⟨_, F, he, hO, hF, hE⟩
theorem lowGo_len : ∀ (l : List InsIns) (b : IrBlock) (n : Nat), (lowGo b n l).ops.length ≤ b.ops.length + 5 * l.length
  | [], b, n => by simp [lowGo]
  | i :: r, b, n => by
    rw [lowGo]
    have := lowGo_len r (lowStep b i n) (n + 1)
    have := lowStep_len b i n
    simp
    omega
theorem blkLower_len (pc : Int) (list : List InsIns) : (blkLower pc list).ops.length ≤ 40 := by
  unfold blkLower
  split
  · rename_i h
    have hb := (blkOk_iff.1 h).1
    have := lowGo_len list (lowStart pc list.length) 0
    have h0 : (lowStart pc list.length).ops.length = 0 := rfl
    omega
  · exact Nat.zero_le _

theorem blk_blkLower (pc : Int) (list : List InsIns) : Bulk.blk (blkLower pc list) ≤ 40 := by
  have e : Bulk.blk (blkLower pc list) = Bulk.blk (blkLower pc list).ops := rfl
  rw [e, blk_flat _ (fun _ => rfl)]
  exact blkLower_len pc list

end Go.Proofs.YtokibcicoomceaaDoor
