/-
  Which operations are used: the program and the reference.
-/
import Derived.Test.YtjemadbhpbbhlaaUsed
import Derived.Test.YtjemadbhpbbhlaaUsedS
import Derived.Test.YtjemadbhpbbhlaaIrOkK
namespace Go.Proofs.Ytjemadbhpbbhlaa
open Go.RowKit

set_option linter.unusedVariables false
set_option linter.unusedSimpArgs false
set_option maxRecDepth 100000

theorem blk_optUsed (b : IrBlock) : Bulk.blk (optUsed b) ≤ Bulk.blk b := by
  have h1 : Bulk.blk b = Bulk.blk b.ops := rfl
  have h2 := blk_len b.ops
  rw [blk_flat (optUsed b) (fun _ => rfl)]
  unfold optUsed
  split
  · rw [usedB_length]; omega
  · simp

set_option maxHeartbeats 4000000 in
theorem implOptUsed_any (b : IrBlock) (v : Value) (w : World) (h : Sl w (Old w) v b.ops) (hkb : b.Ok) :
    Calls Try.prog 30 #[.agg #[.int .i64 b.pc, .int .i64 b.len, v, .int .i64 b.fin, .int .i64 b.x, .int .i64 b.y, .int .i64 b.k]] w fun e w' => ∃ r F, e = .returned r ∧ OwnSl w' r (optUsed b) F ∧ Fr w w' F ∧ Ext w w' := by
  obtain ⟨Ab1, cb1, rfl, hl, hm⟩ := h.form
  unfold maxLen at hm
  go_enter Try.func30, Try.ntmps30
  have he0 : Ext w w := Ext.refl _
  have hs0 : w.heap.size ≤ w.heap.size := Nat.le_refl _
  have hq0 := hide (rfl : w.heap.size = w.heap.size)
  go_wp2_with fail
  have he1 : Ext w (w.alloc (Obj.cells #[.int .i64 b.pc, .int .i64 b.len, (.slice Ab1 b.ops.length cb1), .int .i64 b.fin, .int .i64 b.x, .int .i64 b.y, .int .i64 b.k] 30)) := (Ext.hold he0)
  have hs1 : w.heap.size + 1 ≤ ((w.alloc (Obj.cells #[.int .i64 b.pc, .int .i64 b.len, (.slice Ab1 b.ops.length cb1), .int .i64 b.fin, .int .i64 b.x, .int .i64 b.y, .int .i64 b.k] 30))).heap.size := by simp
  have hq1 := hide (show ((w.alloc (Obj.cells #[.int .i64 b.pc, .int .i64 b.len, (.slice Ab1 b.ops.length cb1), .int .i64 b.fin, .int .i64 b.x, .int .i64 b.y, .int .i64 b.k] 30))).heap.size = w.heap.size + 1 by simp)
  have hBb_1 : Bx ((w.alloc (Obj.cells #[.int .i64 b.pc, .int .i64 b.len, (.slice Ab1 b.ops.length cb1), .int .i64 b.fin, .int .i64 b.x, .int .i64 b.y, .int .i64 b.k] 30))) (w.heap.size) [.int .i64 b.pc, .int .i64 b.len, (.slice Ab1 b.ops.length cb1), .int .i64 b.fin, .int .i64 b.x, .int .i64 b.y, .int .i64 b.k] := (by have := Bx.new w #[.int .i64 b.pc, .int .i64 b.len, (.slice Ab1 b.ops.length cb1), .int .i64 b.fin, .int .i64 b.x, .int .i64 b.y, .int .i64 b.k] 30; simpa using this)
  have hFb_1 : ∀ oo, ((w.alloc (Obj.cells #[.int .i64 b.pc, .int .i64 b.len, (.slice Ab1 b.ops.length cb1), .int .i64 b.fin, .int .i64 b.x, .int .i64 b.y, .int .i64 b.k] 30))).frozen? ⟨w.heap.size, oo, none⟩ = false := by first | (exact fz_new _ _ _ (by first | rfl | simp)) | (intro oo; simp)
  generalize (w.alloc (Obj.cells #[.int .i64 b.pc, .int .i64 b.len, (.slice Ab1 b.ops.length cb1), .int .i64 b.fin, .int .i64 b.x, .int .i64 b.y, .int .i64 b.k] 30)) = w1 at *
  refine (implIrOk_any b _ _ (h.ext he1) hkb).mono ?_
  rintro e w2 ⟨rfl, hy⟩
  have hx2 : Ext w1 w2 := Ext.trans (Ext.auto) hy
  have hs2 := hx2.size
  have he2 : Ext w w2 := he1.trans hx2
  have hBb_2 : Bx w2 (w.heap.size) [.int .i64 b.pc, .int .i64 b.len, (.slice Ab1 b.ops.length cb1), .int .i64 b.fin, .int .i64 b.x, .int .i64 b.y, .int .i64 b.k] := hx2.bx hBb_1 (by omega)
  have hFb_2 : ∀ oo, w2.frozen? ⟨w.heap.size, oo, none⟩ = false := fun oo => (hx2.frozen (by omega)).trans (hFb_1 oo)
  clear hBb_1 hFb_1
  clear hy
  cases hok : irOkB b
  · go_wp2
    go_ret
    exact ⟨_, [], rfl, by unfold optUsed; rw [hok]; exact OwnSl.nil _, Fr.nil _ _, he2⟩
  have HOK := hide hok
  clear hok
  have yb : w.heap.size < w2.heap.size := by omega
  have xb0 := hBb_2 0 _ rfl
  have xb1 := hBb_2 1 _ rfl
  have xb2 := hBb_2 2 _ rfl
  have xb3 := hBb_2 3 _ rfl
  have xb4 := hBb_2 4 _ rfl
  have xb5 := hBb_2 5 _ rfl
  have xb6 := hBb_2 6 _ rfl
  go_wp2_with fail
  refine (used_any b _ _ (h.ext he2) HOK.out).mono ?_
  rintro e w3 ⟨r, F, rfl, ho, hf, hx⟩
  go_wp2
  go_ret
  exact ⟨_, F, rfl, by unfold optUsed; rw [HOK.out]; exact ho, hf.down he2, he2.trans hx⟩

end Go.Proofs.Ytjemadbhpbbhlaa
