/-
  The piece of code at a place, as the exact law calls it.
-/
import Derived.Test.YtokibcicoomceaaDoorBlkFindS
import Derived.Test.YtokibcicoomceaaDoorBlkFindI
import Derived.Test.YtokibcicoomceaaDoorSz
namespace Go.Proofs.YtokibcicoomceaaDoor
open Go.RowKit

set_option linter.unusedVariables false
set_option linter.unusedSimpArgs false
set_option maxRecDepth 100000

theorem Gro.ownF {α : Type} [Flat α] {e : TypeId} {w0 w : World} {v : Value} {l : List α} (h : Gro e w0.heap.size w v l) : ∃ F, OwnSl w v l F ∧ Fr w0 w F := by
  obtain ⟨wa, Fs, xs, h0, h⟩ := h
  obtain ⟨F, hO, hF⟩ := h.app.done4
  refine ⟨F, hO, ?_, fun b hb => ?_⟩
  · rcases hF with rfl | ⟨q, hq, rfl⟩ <;> simp
  · rcases hF with rfl | ⟨q, hq, rfl⟩
    · simp at hb
    · simp at hb
      subst hb
      exact ⟨h.low b hq, h.lt b hq⟩
theorem blk_blkFind (m : MchMach) : Bulk.blk (blkFind m) ≤ 8 := by
  rw [blk_flat (blkFind m) (fun _ => rfl)]
  unfold blkFind
  split
  · exact blkFind_len _ _ _
  · exact Nat.zero_le _

set_option maxHeartbeats 1000000 in
theorem specBlkFind_p (m : MchMach) (vm1 vm2 vm3 vm4 : Value) (w : World) (hm1 : Sl w (Old w) vm1 m.regs) (hm2 : Sl w (Old w) vm2 m.mem) (hm3 : Sl w (Old w) vm3 m.ins) (hm4 : Sl w (Old w) vm4 m.outs)  :
    Calls Tryd.prog 28 #[.agg #[vm1, .int .i64 m.pc, vm2, .int .i64 m.save, .bool m.lets, .bool m.waits, .int .i64 m.halt, vm3, vm4, .int .i64 m.count]] w fun e w' => ∃ (r : Value) (F : List Nat), e = .returned r ∧ OwnSl w' r (blkFind m) F ∧ Fr w w' F ∧ Ext w w' :=
  (specBlkFind_any m vm1 vm2 vm3 vm4 w hm1 hm2 hm3 hm4).mono fun e w' ⟨⟨v, he, hG⟩, hE⟩ => by
    obtain ⟨F, hO, hF9⟩ := hG.ownF
    exact ⟨v, F, he, hO, hF9, hE⟩

set_option maxHeartbeats 1000000 in
theorem implBlkFind_p (m : MchMach) (vm1 vm2 vm3 vm4 : Value) (w : World) (hm1 : Sl w (Old w) vm1 m.regs) (hm2 : Sl w (Old w) vm2 m.mem) (hm3 : Sl w (Old w) vm3 m.ins) (hm4 : Sl w (Old w) vm4 m.outs) (lf : Nat) (hF : Forms lf w) :
    Calls Tryd.prog 30 #[.agg #[vm1, .int .i64 m.pc, vm2, .int .i64 m.save, .bool m.lets, .bool m.waits, .int .i64 m.halt, vm3, vm4, .int .i64 m.count]] w fun e w' => ∃ (r : Value) (F : List Nat), e = .returned r ∧ OwnSl w' r (blkFind m) F ∧ Fr w w' F ∧ Ext w w' :=
  (implBlkFind_any m vm1 vm2 vm3 vm4 w hm1 hm2 hm3 hm4 lf hF).mono fun e w' ⟨⟨v, he, hG⟩, hE⟩ => by
    obtain ⟨F, hO, hF9⟩ := hG.ownF
    exact ⟨v, F, he, hO, hF9, hE⟩

end Go.Proofs.YtokibcicoomceaaDoor
