/-
  The program tells which fields the end of a block has.
-/
import Derived.Test.YteaacelfnkiboaaIrOkI
import Derived.Test.YteaacelfnkiboaaOptPure
namespace Go.Proofs.Yteaacelfnkiboaa
open Go.RowKit

set_option linter.unusedVariables false
set_option linter.unusedSimpArgs false
set_option maxRecDepth 100000

set_option maxHeartbeats 4000000 in
theorem endHas_any (b : IrBlock) (v : Value) (w : World) (h : Sl w (Old w) v b.ops) :
    Calls Try.prog 86 #[.agg #[.int .i64 b.pc, .int .i64 b.len, v, .int .i64 b.fin, .int .i64 b.x, .int .i64 b.y, .int .i64 b.k]] w fun e w' => e = .returned (.tuple #[.bool (endX b.fin), .bool (endY b.fin), .bool (endK b.fin)]) ∧ Ext w w' := by
  obtain ⟨Ab1, cb1, rfl, hl, hm⟩ := h.form
  go_enter Try.func86, Try.ntmps86
  go_wp2_with fail
  have he0 : Ext w (w.alloc (Obj.cells #[.int .i64 b.pc, .int .i64 b.len, (.slice Ab1 b.ops.length cb1), .int .i64 b.fin, .int .i64 b.x, .int .i64 b.y, .int .i64 b.k] 25)) := (Ext.auto)
  have hs0 : w.heap.size + 1 ≤ ((w.alloc (Obj.cells #[.int .i64 b.pc, .int .i64 b.len, (.slice Ab1 b.ops.length cb1), .int .i64 b.fin, .int .i64 b.x, .int .i64 b.y, .int .i64 b.k] 25))).heap.size := by simp
  have hq0 := hide (show ((w.alloc (Obj.cells #[.int .i64 b.pc, .int .i64 b.len, (.slice Ab1 b.ops.length cb1), .int .i64 b.fin, .int .i64 b.x, .int .i64 b.y, .int .i64 b.k] 25))).heap.size = w.heap.size + 1 by simp)
  have hBb_0 : Bx (w.alloc (Obj.cells #[.int .i64 b.pc, .int .i64 b.len, (.slice Ab1 b.ops.length cb1), .int .i64 b.fin, .int .i64 b.x, .int .i64 b.y, .int .i64 b.k] 25)) (w.heap.size) [.int .i64 b.pc, .int .i64 b.len, (.slice Ab1 b.ops.length cb1), .int .i64 b.fin, .int .i64 b.x, .int .i64 b.y, .int .i64 b.k] := (by have := (Bx.new w #[.int .i64 b.pc, .int .i64 b.len, (.slice Ab1 b.ops.length cb1), .int .i64 b.fin, .int .i64 b.x, .int .i64 b.y, .int .i64 b.k] 25); simpa using this)
  have hFb_0 : ∀ oo, ((w.alloc (Obj.cells #[.int .i64 b.pc, .int .i64 b.len, (.slice Ab1 b.ops.length cb1), .int .i64 b.fin, .int .i64 b.x, .int .i64 b.y, .int .i64 b.k] 25))).frozen? ⟨w.heap.size, oo, none⟩ = false := fun oo => by simp
  generalize (w.alloc (Obj.cells #[.int .i64 b.pc, .int .i64 b.len, (.slice Ab1 b.ops.length cb1), .int .i64 b.fin, .int .i64 b.x, .int .i64 b.y, .int .i64 b.k] 25)) = w0 at *
  have yb : w.heap.size < w0.heap.size := by omega
  have xb0 := hBb_0 0 _ rfl
  have xb1 := hBb_0 1 _ rfl
  have xb2 := hBb_0 2 _ rfl
  have xb3 := hBb_0 3 _ rfl
  have xb4 := hBb_0 4 _ rfl
  have xb5 := hBb_0 5 _ rfl
  have xb6 := hBb_0 6 _ rfl
  go_wp2_with fail
  have hS : ∀ w', Ext w0 w' → ∀ bb oo, bb < w0.heap.size → w'.cell? ⟨bb, oo, none⟩ = w0.cell? ⟨bb, oo, none⟩ := fun w' hx bb oo hb => hx.cell hb
  refine wp_region_plan (fun w' => Ext w0 w') 11 (.float 0 (.float 1 (.float 2 (.float 3 (.float 4 (.float 5 (.float 6 (.float 7 (.float 8 (.float 9 (.float 10 (.tail 11)))))))))))) (by kernel_rfl) (by kernel_rfl) (Ext.refl _).drew ?_
  iterate 11 ((refine Plan.float_step (v := ?_) rfl (by rfl) (fun _ _ _ h => h) (fun w' hSw => ?_) ?_; rotate_left; · (go_simp; try with_reducible rfl)); (try simp only [Act.put, List.setIfInBounds_toArray, List.set_cons_zero, List.set_cons_succ]))
  refine Plan.tail_step ?_
  simp only [List.drop_succ_cons, List.drop_zero]
  clear hS
  clear xb0 xb1 xb2 xb3 xb4 xb5 xb6 yb
  go_wp2
  refine bodyPost_ret (v := .tuple #[.bool (endX b.fin), .bool (endY b.fin), .bool (endK b.fin)]) (by simp [results, Try.results86, go_sem]; exact ⟨rfl, rfl, rfl⟩) rfl ⟨rfl, ?_⟩
  exact (Ext.hold he0)

end Go.Proofs.Yteaacelfnkiboaa
