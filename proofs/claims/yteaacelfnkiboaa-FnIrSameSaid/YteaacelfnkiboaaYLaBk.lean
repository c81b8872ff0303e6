/-
  LaBk
-/
import Derived.Test.YteaacelfnkiboaaYRegLib
import Derived.Test.YteaacelfnkiboaaYTy
import Derived.Test.YteaacelfnkiboaaYCertLib
import Derived.Test.YteaacelfnkiboaaYRead
import Derived.Test.YteaacelfnkiboaaYIrSame
import Derived.Deep.DeepCutAuto
namespace Go.Proofs.Yteaacelfnkiboaa
open Go.RowKit

set_option linter.unusedVariables false
set_option linter.unusedSimpArgs false
set_option maxRecDepth 100000

set_option maxHeartbeats 16000000 in
theorem laBlock_any (a : IrBlock) (b : IrBlock) (va1 vb1 : Value) (w : World) (ha1 : Sl w (Old w) va1 a.ops) (hb1 : Sl w (Old w) vb1 b.ops)  :
    Calls Try.prog 10 #[.agg #[.int .i64 a.pc, .int .i64 a.len, va1, .int .i64 a.fin, .int .i64 a.x, .int .i64 a.y, .int .i64 a.k], .agg #[.int .i64 b.pc, .int .i64 b.len, vb1, .int .i64 b.fin, .int .i64 b.x, .int .i64 b.y, .int .i64 b.k]] w fun e w' => e = .returned (.bool (decide (a = b))) ∧ Ext w w' := by
  obtain ⟨Aa1, ca1, rfl, hla1, hma1⟩ := ha1.form
  obtain ⟨Ab1, cb1, rfl, hlb1, hmb1⟩ := hb1.form
  unfold maxLen at hma1 hmb1
  by_cases h0 : a.pc = b.pc
  rotate_left
  · 
    have q0 : (a.pc != b.pc) = true := by simp [h0]
    have HC := hide (show decide (a = b) = false from decide_eq_false (fun e => h0 (by rw [e])))
    clear h0
    go_enter Try.func10, Try.ntmps10
    go_upto_region 1 with fail
    have he0 : Ext w ((w.alloc (Obj.cells #[.int .i64 a.pc, .int .i64 a.len, (.slice Aa1 a.ops.length ca1), .int .i64 a.fin, .int .i64 a.x, .int .i64 a.y, .int .i64 a.k] 25)).alloc (Obj.cells #[.int .i64 b.pc, .int .i64 b.len, (.slice Ab1 b.ops.length cb1), .int .i64 b.fin, .int .i64 b.x, .int .i64 b.y, .int .i64 b.k] 25)) := (Ext.auto)
    have hs0 : w.heap.size + 2 ≤ (((w.alloc (Obj.cells #[.int .i64 a.pc, .int .i64 a.len, (.slice Aa1 a.ops.length ca1), .int .i64 a.fin, .int .i64 a.x, .int .i64 a.y, .int .i64 a.k] 25)).alloc (Obj.cells #[.int .i64 b.pc, .int .i64 b.len, (.slice Ab1 b.ops.length cb1), .int .i64 b.fin, .int .i64 b.x, .int .i64 b.y, .int .i64 b.k] 25))).heap.size := by simp
    have hq0 := hide (show (((w.alloc (Obj.cells #[.int .i64 a.pc, .int .i64 a.len, (.slice Aa1 a.ops.length ca1), .int .i64 a.fin, .int .i64 a.x, .int .i64 a.y, .int .i64 a.k] 25)).alloc (Obj.cells #[.int .i64 b.pc, .int .i64 b.len, (.slice Ab1 b.ops.length cb1), .int .i64 b.fin, .int .i64 b.x, .int .i64 b.y, .int .i64 b.k] 25))).heap.size = w.heap.size + 2 by simp)
    have hBa_0 : Bx ((w.alloc (Obj.cells #[.int .i64 a.pc, .int .i64 a.len, (.slice Aa1 a.ops.length ca1), .int .i64 a.fin, .int .i64 a.x, .int .i64 a.y, .int .i64 a.k] 25)).alloc (Obj.cells #[.int .i64 b.pc, .int .i64 b.len, (.slice Ab1 b.ops.length cb1), .int .i64 b.fin, .int .i64 b.x, .int .i64 b.y, .int .i64 b.k] 25)) (w.heap.size) [.int .i64 a.pc, .int .i64 a.len, (.slice Aa1 a.ops.length ca1), .int .i64 a.fin, .int .i64 a.x, .int .i64 a.y, .int .i64 a.k] := (by have := (Bx.alloc (Bx.new w #[.int .i64 a.pc, .int .i64 a.len, (.slice Aa1 a.ops.length ca1), .int .i64 a.fin, .int .i64 a.x, .int .i64 a.y, .int .i64 a.k] 25) (by simp) #[.int .i64 b.pc, .int .i64 b.len, (.slice Ab1 b.ops.length cb1), .int .i64 b.fin, .int .i64 b.x, .int .i64 b.y, .int .i64 b.k] 25); simpa using this)
    have hFa_0 : ∀ oo, (((w.alloc (Obj.cells #[.int .i64 a.pc, .int .i64 a.len, (.slice Aa1 a.ops.length ca1), .int .i64 a.fin, .int .i64 a.x, .int .i64 a.y, .int .i64 a.k] 25)).alloc (Obj.cells #[.int .i64 b.pc, .int .i64 b.len, (.slice Ab1 b.ops.length cb1), .int .i64 b.fin, .int .i64 b.x, .int .i64 b.y, .int .i64 b.k] 25))).frozen? ⟨w.heap.size, oo, none⟩ = false := fun oo => by simp
    have hBb_0 : Bx ((w.alloc (Obj.cells #[.int .i64 a.pc, .int .i64 a.len, (.slice Aa1 a.ops.length ca1), .int .i64 a.fin, .int .i64 a.x, .int .i64 a.y, .int .i64 a.k] 25)).alloc (Obj.cells #[.int .i64 b.pc, .int .i64 b.len, (.slice Ab1 b.ops.length cb1), .int .i64 b.fin, .int .i64 b.x, .int .i64 b.y, .int .i64 b.k] 25)) (w.heap.size + 1) [.int .i64 b.pc, .int .i64 b.len, (.slice Ab1 b.ops.length cb1), .int .i64 b.fin, .int .i64 b.x, .int .i64 b.y, .int .i64 b.k] := (by have := (Bx.new (w.alloc (Obj.cells #[.int .i64 a.pc, .int .i64 a.len, (.slice Aa1 a.ops.length ca1), .int .i64 a.fin, .int .i64 a.x, .int .i64 a.y, .int .i64 a.k] 25)) #[.int .i64 b.pc, .int .i64 b.len, (.slice Ab1 b.ops.length cb1), .int .i64 b.fin, .int .i64 b.x, .int .i64 b.y, .int .i64 b.k] 25); simpa using this)
    have hFb_0 : ∀ oo, (((w.alloc (Obj.cells #[.int .i64 a.pc, .int .i64 a.len, (.slice Aa1 a.ops.length ca1), .int .i64 a.fin, .int .i64 a.x, .int .i64 a.y, .int .i64 a.k] 25)).alloc (Obj.cells #[.int .i64 b.pc, .int .i64 b.len, (.slice Ab1 b.ops.length cb1), .int .i64 b.fin, .int .i64 b.x, .int .i64 b.y, .int .i64 b.k] 25))).frozen? ⟨w.heap.size + 1, oo, none⟩ = false := fun oo => by simp
    generalize ((w.alloc (Obj.cells #[.int .i64 a.pc, .int .i64 a.len, (.slice Aa1 a.ops.length ca1), .int .i64 a.fin, .int .i64 a.x, .int .i64 a.y, .int .i64 a.k] 25)).alloc (Obj.cells #[.int .i64 b.pc, .int .i64 b.len, (.slice Ab1 b.ops.length cb1), .int .i64 b.fin, .int .i64 b.x, .int .i64 b.y, .int .i64 b.k] 25)) = w0 at *
    have ya : w.heap.size < w0.heap.size := by omega
    have xa0 := hBa_0 0 _ rfl
    have xa1 := hBa_0 1 _ rfl
    have xa2 := hBa_0 2 _ rfl
    have xa3 := hBa_0 3 _ rfl
    have xa4 := hBa_0 4 _ rfl
    have xa5 := hBa_0 5 _ rfl
    have xa6 := hBa_0 6 _ rfl
    have yb : w.heap.size + 1 < w0.heap.size := by omega
    have xb0 := hBb_0 0 _ rfl
    have xb1 := hBb_0 1 _ rfl
    have xb2 := hBb_0 2 _ rfl
    have xb3 := hBb_0 3 _ rfl
    have xb4 := hBb_0 4 _ rfl
    have xb5 := hBb_0 5 _ rfl
    have xb6 := hBb_0 6 _ rfl
    go_wp2
    go_ret
    exact ⟨by rw [HC.out]; rfl, Ext.hold he0⟩
  have q0 : (a.pc != b.pc) = false := by simp [h0]
  have H0 := hide h0
  clear h0
  by_cases h1 : a.len = b.len
  rotate_left
  · 
    have q1 : (a.len != b.len) = true := by simp [h1]
    have HC := hide (show decide (a = b) = false from decide_eq_false (fun e => h1 (by rw [e])))
    clear h1
    go_enter Try.func10, Try.ntmps10
    go_upto_region 1 with fail
    have he0 : Ext w ((w.alloc (Obj.cells #[.int .i64 a.pc, .int .i64 a.len, (.slice Aa1 a.ops.length ca1), .int .i64 a.fin, .int .i64 a.x, .int .i64 a.y, .int .i64 a.k] 25)).alloc (Obj.cells #[.int .i64 b.pc, .int .i64 b.len, (.slice Ab1 b.ops.length cb1), .int .i64 b.fin, .int .i64 b.x, .int .i64 b.y, .int .i64 b.k] 25)) := (Ext.auto)
    have hs0 : w.heap.size + 2 ≤ (((w.alloc (Obj.cells #[.int .i64 a.pc, .int .i64 a.len, (.slice Aa1 a.ops.length ca1), .int .i64 a.fin, .int .i64 a.x, .int .i64 a.y, .int .i64 a.k] 25)).alloc (Obj.cells #[.int .i64 b.pc, .int .i64 b.len, (.slice Ab1 b.ops.length cb1), .int .i64 b.fin, .int .i64 b.x, .int .i64 b.y, .int .i64 b.k] 25))).heap.size := by simp
    have hq0 := hide (show (((w.alloc (Obj.cells #[.int .i64 a.pc, .int .i64 a.len, (.slice Aa1 a.ops.length ca1), .int .i64 a.fin, .int .i64 a.x, .int .i64 a.y, .int .i64 a.k] 25)).alloc (Obj.cells #[.int .i64 b.pc, .int .i64 b.len, (.slice Ab1 b.ops.length cb1), .int .i64 b.fin, .int .i64 b.x, .int .i64 b.y, .int .i64 b.k] 25))).heap.size = w.heap.size + 2 by simp)
    have hBa_0 : Bx ((w.alloc (Obj.cells #[.int .i64 a.pc, .int .i64 a.len, (.slice Aa1 a.ops.length ca1), .int .i64 a.fin, .int .i64 a.x, .int .i64 a.y, .int .i64 a.k] 25)).alloc (Obj.cells #[.int .i64 b.pc, .int .i64 b.len, (.slice Ab1 b.ops.length cb1), .int .i64 b.fin, .int .i64 b.x, .int .i64 b.y, .int .i64 b.k] 25)) (w.heap.size) [.int .i64 a.pc, .int .i64 a.len, (.slice Aa1 a.ops.length ca1), .int .i64 a.fin, .int .i64 a.x, .int .i64 a.y, .int .i64 a.k] := (by have := (Bx.alloc (Bx.new w #[.int .i64 a.pc, .int .i64 a.len, (.slice Aa1 a.ops.length ca1), .int .i64 a.fin, .int .i64 a.x, .int .i64 a.y, .int .i64 a.k] 25) (by simp) #[.int .i64 b.pc, .int .i64 b.len, (.slice Ab1 b.ops.length cb1), .int .i64 b.fin, .int .i64 b.x, .int .i64 b.y, .int .i64 b.k] 25); simpa using this)
    have hFa_0 : ∀ oo, (((w.alloc (Obj.cells #[.int .i64 a.pc, .int .i64 a.len, (.slice Aa1 a.ops.length ca1), .int .i64 a.fin, .int .i64 a.x, .int .i64 a.y, .int .i64 a.k] 25)).alloc (Obj.cells #[.int .i64 b.pc, .int .i64 b.len, (.slice Ab1 b.ops.length cb1), .int .i64 b.fin, .int .i64 b.x, .int .i64 b.y, .int .i64 b.k] 25))).frozen? ⟨w.heap.size, oo, none⟩ = false := fun oo => by simp
    have hBb_0 : Bx ((w.alloc (Obj.cells #[.int .i64 a.pc, .int .i64 a.len, (.slice Aa1 a.ops.length ca1), .int .i64 a.fin, .int .i64 a.x, .int .i64 a.y, .int .i64 a.k] 25)).alloc (Obj.cells #[.int .i64 b.pc, .int .i64 b.len, (.slice Ab1 b.ops.length cb1), .int .i64 b.fin, .int .i64 b.x, .int .i64 b.y, .int .i64 b.k] 25)) (w.heap.size + 1) [.int .i64 b.pc, .int .i64 b.len, (.slice Ab1 b.ops.length cb1), .int .i64 b.fin, .int .i64 b.x, .int .i64 b.y, .int .i64 b.k] := (by have := (Bx.new (w.alloc (Obj.cells #[.int .i64 a.pc, .int .i64 a.len, (.slice Aa1 a.ops.length ca1), .int .i64 a.fin, .int .i64 a.x, .int .i64 a.y, .int .i64 a.k] 25)) #[.int .i64 b.pc, .int .i64 b.len, (.slice Ab1 b.ops.length cb1), .int .i64 b.fin, .int .i64 b.x, .int .i64 b.y, .int .i64 b.k] 25); simpa using this)
    have hFb_0 : ∀ oo, (((w.alloc (Obj.cells #[.int .i64 a.pc, .int .i64 a.len, (.slice Aa1 a.ops.length ca1), .int .i64 a.fin, .int .i64 a.x, .int .i64 a.y, .int .i64 a.k] 25)).alloc (Obj.cells #[.int .i64 b.pc, .int .i64 b.len, (.slice Ab1 b.ops.length cb1), .int .i64 b.fin, .int .i64 b.x, .int .i64 b.y, .int .i64 b.k] 25))).frozen? ⟨w.heap.size + 1, oo, none⟩ = false := fun oo => by simp
    generalize ((w.alloc (Obj.cells #[.int .i64 a.pc, .int .i64 a.len, (.slice Aa1 a.ops.length ca1), .int .i64 a.fin, .int .i64 a.x, .int .i64 a.y, .int .i64 a.k] 25)).alloc (Obj.cells #[.int .i64 b.pc, .int .i64 b.len, (.slice Ab1 b.ops.length cb1), .int .i64 b.fin, .int .i64 b.x, .int .i64 b.y, .int .i64 b.k] 25)) = w0 at *
    have ya : w.heap.size < w0.heap.size := by omega
    have xa0 := hBa_0 0 _ rfl
    have xa1 := hBa_0 1 _ rfl
    have xa2 := hBa_0 2 _ rfl
    have xa3 := hBa_0 3 _ rfl
    have xa4 := hBa_0 4 _ rfl
    have xa5 := hBa_0 5 _ rfl
    have xa6 := hBa_0 6 _ rfl
    have yb : w.heap.size + 1 < w0.heap.size := by omega
    have xb0 := hBb_0 0 _ rfl
    have xb1 := hBb_0 1 _ rfl
    have xb2 := hBb_0 2 _ rfl
    have xb3 := hBb_0 3 _ rfl
    have xb4 := hBb_0 4 _ rfl
    have xb5 := hBb_0 5 _ rfl
    have xb6 := hBb_0 6 _ rfl
    go_wp2
    go_ret
    exact ⟨by rw [HC.out]; rfl, Ext.hold he0⟩
  have q1 : (a.len != b.len) = false := by simp [h1]
  have H1 := hide h1
  clear h1
  by_cases h2 : a.fin = b.fin
  rotate_left
  · 
    have q2 : (a.fin != b.fin) = true := by simp [h2]
    have HC := hide (show decide (a = b) = false from decide_eq_false (fun e => h2 (by rw [e])))
    clear h2
    go_enter Try.func10, Try.ntmps10
    go_upto_region 1 with fail
    have he0 : Ext w ((w.alloc (Obj.cells #[.int .i64 a.pc, .int .i64 a.len, (.slice Aa1 a.ops.length ca1), .int .i64 a.fin, .int .i64 a.x, .int .i64 a.y, .int .i64 a.k] 25)).alloc (Obj.cells #[.int .i64 b.pc, .int .i64 b.len, (.slice Ab1 b.ops.length cb1), .int .i64 b.fin, .int .i64 b.x, .int .i64 b.y, .int .i64 b.k] 25)) := (Ext.auto)
    have hs0 : w.heap.size + 2 ≤ (((w.alloc (Obj.cells #[.int .i64 a.pc, .int .i64 a.len, (.slice Aa1 a.ops.length ca1), .int .i64 a.fin, .int .i64 a.x, .int .i64 a.y, .int .i64 a.k] 25)).alloc (Obj.cells #[.int .i64 b.pc, .int .i64 b.len, (.slice Ab1 b.ops.length cb1), .int .i64 b.fin, .int .i64 b.x, .int .i64 b.y, .int .i64 b.k] 25))).heap.size := by simp
    have hq0 := hide (show (((w.alloc (Obj.cells #[.int .i64 a.pc, .int .i64 a.len, (.slice Aa1 a.ops.length ca1), .int .i64 a.fin, .int .i64 a.x, .int .i64 a.y, .int .i64 a.k] 25)).alloc (Obj.cells #[.int .i64 b.pc, .int .i64 b.len, (.slice Ab1 b.ops.length cb1), .int .i64 b.fin, .int .i64 b.x, .int .i64 b.y, .int .i64 b.k] 25))).heap.size = w.heap.size + 2 by simp)
    have hBa_0 : Bx ((w.alloc (Obj.cells #[.int .i64 a.pc, .int .i64 a.len, (.slice Aa1 a.ops.length ca1), .int .i64 a.fin, .int .i64 a.x, .int .i64 a.y, .int .i64 a.k] 25)).alloc (Obj.cells #[.int .i64 b.pc, .int .i64 b.len, (.slice Ab1 b.ops.length cb1), .int .i64 b.fin, .int .i64 b.x, .int .i64 b.y, .int .i64 b.k] 25)) (w.heap.size) [.int .i64 a.pc, .int .i64 a.len, (.slice Aa1 a.ops.length ca1), .int .i64 a.fin, .int .i64 a.x, .int .i64 a.y, .int .i64 a.k] := (by have := (Bx.alloc (Bx.new w #[.int .i64 a.pc, .int .i64 a.len, (.slice Aa1 a.ops.length ca1), .int .i64 a.fin, .int .i64 a.x, .int .i64 a.y, .int .i64 a.k] 25) (by simp) #[.int .i64 b.pc, .int .i64 b.len, (.slice Ab1 b.ops.length cb1), .int .i64 b.fin, .int .i64 b.x, .int .i64 b.y, .int .i64 b.k] 25); simpa using this)
    have hFa_0 : ∀ oo, (((w.alloc (Obj.cells #[.int .i64 a.pc, .int .i64 a.len, (.slice Aa1 a.ops.length ca1), .int .i64 a.fin, .int .i64 a.x, .int .i64 a.y, .int .i64 a.k] 25)).alloc (Obj.cells #[.int .i64 b.pc, .int .i64 b.len, (.slice Ab1 b.ops.length cb1), .int .i64 b.fin, .int .i64 b.x, .int .i64 b.y, .int .i64 b.k] 25))).frozen? ⟨w.heap.size, oo, none⟩ = false := fun oo => by simp
    have hBb_0 : Bx ((w.alloc (Obj.cells #[.int .i64 a.pc, .int .i64 a.len, (.slice Aa1 a.ops.length ca1), .int .i64 a.fin, .int .i64 a.x, .int .i64 a.y, .int .i64 a.k] 25)).alloc (Obj.cells #[.int .i64 b.pc, .int .i64 b.len, (.slice Ab1 b.ops.length cb1), .int .i64 b.fin, .int .i64 b.x, .int .i64 b.y, .int .i64 b.k] 25)) (w.heap.size + 1) [.int .i64 b.pc, .int .i64 b.len, (.slice Ab1 b.ops.length cb1), .int .i64 b.fin, .int .i64 b.x, .int .i64 b.y, .int .i64 b.k] := (by have := (Bx.new (w.alloc (Obj.cells #[.int .i64 a.pc, .int .i64 a.len, (.slice Aa1 a.ops.length ca1), .int .i64 a.fin, .int .i64 a.x, .int .i64 a.y, .int .i64 a.k] 25)) #[.int .i64 b.pc, .int .i64 b.len, (.slice Ab1 b.ops.length cb1), .int .i64 b.fin, .int .i64 b.x, .int .i64 b.y, .int .i64 b.k] 25); simpa using this)
    have hFb_0 : ∀ oo, (((w.alloc (Obj.cells #[.int .i64 a.pc, .int .i64 a.len, (.slice Aa1 a.ops.length ca1), .int .i64 a.fin, .int .i64 a.x, .int .i64 a.y, .int .i64 a.k] 25)).alloc (Obj.cells #[.int .i64 b.pc, .int .i64 b.len, (.slice Ab1 b.ops.length cb1), .int .i64 b.fin, .int .i64 b.x, .int .i64 b.y, .int .i64 b.k] 25))).frozen? ⟨w.heap.size + 1, oo, none⟩ = false := fun oo => by simp
    generalize ((w.alloc (Obj.cells #[.int .i64 a.pc, .int .i64 a.len, (.slice Aa1 a.ops.length ca1), .int .i64 a.fin, .int .i64 a.x, .int .i64 a.y, .int .i64 a.k] 25)).alloc (Obj.cells #[.int .i64 b.pc, .int .i64 b.len, (.slice Ab1 b.ops.length cb1), .int .i64 b.fin, .int .i64 b.x, .int .i64 b.y, .int .i64 b.k] 25)) = w0 at *
    have ya : w.heap.size < w0.heap.size := by omega
    have xa0 := hBa_0 0 _ rfl
    have xa1 := hBa_0 1 _ rfl
    have xa2 := hBa_0 2 _ rfl
    have xa3 := hBa_0 3 _ rfl
    have xa4 := hBa_0 4 _ rfl
    have xa5 := hBa_0 5 _ rfl
    have xa6 := hBa_0 6 _ rfl
    have yb : w.heap.size + 1 < w0.heap.size := by omega
    have xb0 := hBb_0 0 _ rfl
    have xb1 := hBb_0 1 _ rfl
    have xb2 := hBb_0 2 _ rfl
    have xb3 := hBb_0 3 _ rfl
    have xb4 := hBb_0 4 _ rfl
    have xb5 := hBb_0 5 _ rfl
    have xb6 := hBb_0 6 _ rfl
    go_wp2
    go_ret
    exact ⟨by rw [HC.out]; rfl, Ext.hold he0⟩
  have q2 : (a.fin != b.fin) = false := by simp [h2]
  have H2 := hide h2
  clear h2
  by_cases h3 : a.x = b.x
  rotate_left
  · 
    have q3 : (a.x != b.x) = true := by simp [h3]
    have HC := hide (show decide (a = b) = false from decide_eq_false (fun e => h3 (by rw [e])))
    clear h3
    go_enter Try.func10, Try.ntmps10
    go_upto_region 1 with fail
    have he0 : Ext w ((w.alloc (Obj.cells #[.int .i64 a.pc, .int .i64 a.len, (.slice Aa1 a.ops.length ca1), .int .i64 a.fin, .int .i64 a.x, .int .i64 a.y, .int .i64 a.k] 25)).alloc (Obj.cells #[.int .i64 b.pc, .int .i64 b.len, (.slice Ab1 b.ops.length cb1), .int .i64 b.fin, .int .i64 b.x, .int .i64 b.y, .int .i64 b.k] 25)) := (Ext.auto)
    have hs0 : w.heap.size + 2 ≤ (((w.alloc (Obj.cells #[.int .i64 a.pc, .int .i64 a.len, (.slice Aa1 a.ops.length ca1), .int .i64 a.fin, .int .i64 a.x, .int .i64 a.y, .int .i64 a.k] 25)).alloc (Obj.cells #[.int .i64 b.pc, .int .i64 b.len, (.slice Ab1 b.ops.length cb1), .int .i64 b.fin, .int .i64 b.x, .int .i64 b.y, .int .i64 b.k] 25))).heap.size := by simp
    have hq0 := hide (show (((w.alloc (Obj.cells #[.int .i64 a.pc, .int .i64 a.len, (.slice Aa1 a.ops.length ca1), .int .i64 a.fin, .int .i64 a.x, .int .i64 a.y, .int .i64 a.k] 25)).alloc (Obj.cells #[.int .i64 b.pc, .int .i64 b.len, (.slice Ab1 b.ops.length cb1), .int .i64 b.fin, .int .i64 b.x, .int .i64 b.y, .int .i64 b.k] 25))).heap.size = w.heap.size + 2 by simp)
    have hBa_0 : Bx ((w.alloc (Obj.cells #[.int .i64 a.pc, .int .i64 a.len, (.slice Aa1 a.ops.length ca1), .int .i64 a.fin, .int .i64 a.x, .int .i64 a.y, .int .i64 a.k] 25)).alloc (Obj.cells #[.int .i64 b.pc, .int .i64 b.len, (.slice Ab1 b.ops.length cb1), .int .i64 b.fin, .int .i64 b.x, .int .i64 b.y, .int .i64 b.k] 25)) (w.heap.size) [.int .i64 a.pc, .int .i64 a.len, (.slice Aa1 a.ops.length ca1), .int .i64 a.fin, .int .i64 a.x, .int .i64 a.y, .int .i64 a.k] := (by have := (Bx.alloc (Bx.new w #[.int .i64 a.pc, .int .i64 a.len, (.slice Aa1 a.ops.length ca1), .int .i64 a.fin, .int .i64 a.x, .int .i64 a.y, .int .i64 a.k] 25) (by simp) #[.int .i64 b.pc, .int .i64 b.len, (.slice Ab1 b.ops.length cb1), .int .i64 b.fin, .int .i64 b.x, .int .i64 b.y, .int .i64 b.k] 25); simpa using this)
    have hFa_0 : ∀ oo, (((w.alloc (Obj.cells #[.int .i64 a.pc, .int .i64 a.len, (.slice Aa1 a.ops.length ca1), .int .i64 a.fin, .int .i64 a.x, .int .i64 a.y, .int .i64 a.k] 25)).alloc (Obj.cells #[.int .i64 b.pc, .int .i64 b.len, (.slice Ab1 b.ops.length cb1), .int .i64 b.fin, .int .i64 b.x, .int .i64 b.y, .int .i64 b.k] 25))).frozen? ⟨w.heap.size, oo, none⟩ = false := fun oo => by simp
    have hBb_0 : Bx ((w.alloc (Obj.cells #[.int .i64 a.pc, .int .i64 a.len, (.slice Aa1 a.ops.length ca1), .int .i64 a.fin, .int .i64 a.x, .int .i64 a.y, .int .i64 a.k] 25)).alloc (Obj.cells #[.int .i64 b.pc, .int .i64 b.len, (.slice Ab1 b.ops.length cb1), .int .i64 b.fin, .int .i64 b.x, .int .i64 b.y, .int .i64 b.k] 25)) (w.heap.size + 1) [.int .i64 b.pc, .int .i64 b.len, (.slice Ab1 b.ops.length cb1), .int .i64 b.fin, .int .i64 b.x, .int .i64 b.y, .int .i64 b.k] := (by have := (Bx.new (w.alloc (Obj.cells #[.int .i64 a.pc, .int .i64 a.len, (.slice Aa1 a.ops.length ca1), .int .i64 a.fin, .int .i64 a.x, .int .i64 a.y, .int .i64 a.k] 25)) #[.int .i64 b.pc, .int .i64 b.len, (.slice Ab1 b.ops.length cb1), .int .i64 b.fin, .int .i64 b.x, .int .i64 b.y, .int .i64 b.k] 25); simpa using this)
    have hFb_0 : ∀ oo, (((w.alloc (Obj.cells #[.int .i64 a.pc, .int .i64 a.len, (.slice Aa1 a.ops.length ca1), .int .i64 a.fin, .int .i64 a.x, .int .i64 a.y, .int .i64 a.k] 25)).alloc (Obj.cells #[.int .i64 b.pc, .int .i64 b.len, (.slice Ab1 b.ops.length cb1), .int .i64 b.fin, .int .i64 b.x, .int .i64 b.y, .int .i64 b.k] 25))).frozen? ⟨w.heap.size + 1, oo, none⟩ = false := fun oo => by simp
    generalize ((w.alloc (Obj.cells #[.int .i64 a.pc, .int .i64 a.len, (.slice Aa1 a.ops.length ca1), .int .i64 a.fin, .int .i64 a.x, .int .i64 a.y, .int .i64 a.k] 25)).alloc (Obj.cells #[.int .i64 b.pc, .int .i64 b.len, (.slice Ab1 b.ops.length cb1), .int .i64 b.fin, .int .i64 b.x, .int .i64 b.y, .int .i64 b.k] 25)) = w0 at *
    have ya : w.heap.size < w0.heap.size := by omega
    have xa0 := hBa_0 0 _ rfl
    have xa1 := hBa_0 1 _ rfl
    have xa2 := hBa_0 2 _ rfl
    have xa3 := hBa_0 3 _ rfl
    have xa4 := hBa_0 4 _ rfl
    have xa5 := hBa_0 5 _ rfl
    have xa6 := hBa_0 6 _ rfl
    have yb : w.heap.size + 1 < w0.heap.size := by omega
    have xb0 := hBb_0 0 _ rfl
    have xb1 := hBb_0 1 _ rfl
    have xb2 := hBb_0 2 _ rfl
    have xb3 := hBb_0 3 _ rfl
    have xb4 := hBb_0 4 _ rfl
    have xb5 := hBb_0 5 _ rfl
    have xb6 := hBb_0 6 _ rfl
    go_wp2
    go_ret
    exact ⟨by rw [HC.out]; rfl, Ext.hold he0⟩
  have q3 : (a.x != b.x) = false := by simp [h3]
  have H3 := hide h3
  clear h3
  by_cases h4 : a.y = b.y
  rotate_left
  · 
    have q4 : (a.y != b.y) = true := by simp [h4]
    have HC := hide (show decide (a = b) = false from decide_eq_false (fun e => h4 (by rw [e])))
    clear h4
    go_enter Try.func10, Try.ntmps10
    go_upto_region 1 with fail
    have he0 : Ext w ((w.alloc (Obj.cells #[.int .i64 a.pc, .int .i64 a.len, (.slice Aa1 a.ops.length ca1), .int .i64 a.fin, .int .i64 a.x, .int .i64 a.y, .int .i64 a.k] 25)).alloc (Obj.cells #[.int .i64 b.pc, .int .i64 b.len, (.slice Ab1 b.ops.length cb1), .int .i64 b.fin, .int .i64 b.x, .int .i64 b.y, .int .i64 b.k] 25)) := (Ext.auto)
    have hs0 : w.heap.size + 2 ≤ (((w.alloc (Obj.cells #[.int .i64 a.pc, .int .i64 a.len, (.slice Aa1 a.ops.length ca1), .int .i64 a.fin, .int .i64 a.x, .int .i64 a.y, .int .i64 a.k] 25)).alloc (Obj.cells #[.int .i64 b.pc, .int .i64 b.len, (.slice Ab1 b.ops.length cb1), .int .i64 b.fin, .int .i64 b.x, .int .i64 b.y, .int .i64 b.k] 25))).heap.size := by simp
    have hq0 := hide (show (((w.alloc (Obj.cells #[.int .i64 a.pc, .int .i64 a.len, (.slice Aa1 a.ops.length ca1), .int .i64 a.fin, .int .i64 a.x, .int .i64 a.y, .int .i64 a.k] 25)).alloc (Obj.cells #[.int .i64 b.pc, .int .i64 b.len, (.slice Ab1 b.ops.length cb1), .int .i64 b.fin, .int .i64 b.x, .int .i64 b.y, .int .i64 b.k] 25))).heap.size = w.heap.size + 2 by simp)
    have hBa_0 : Bx ((w.alloc (Obj.cells #[.int .i64 a.pc, .int .i64 a.len, (.slice Aa1 a.ops.length ca1), .int .i64 a.fin, .int .i64 a.x, .int .i64 a.y, .int .i64 a.k] 25)).alloc (Obj.cells #[.int .i64 b.pc, .int .i64 b.len, (.slice Ab1 b.ops.length cb1), .int .i64 b.fin, .int .i64 b.x, .int .i64 b.y, .int .i64 b.k] 25)) (w.heap.size) [.int .i64 a.pc, .int .i64 a.len, (.slice Aa1 a.ops.length ca1), .int .i64 a.fin, .int .i64 a.x, .int .i64 a.y, .int .i64 a.k] := (by have := (Bx.alloc (Bx.new w #[.int .i64 a.pc, .int .i64 a.len, (.slice Aa1 a.ops.length ca1), .int .i64 a.fin, .int .i64 a.x, .int .i64 a.y, .int .i64 a.k] 25) (by simp) #[.int .i64 b.pc, .int .i64 b.len, (.slice Ab1 b.ops.length cb1), .int .i64 b.fin, .int .i64 b.x, .int .i64 b.y, .int .i64 b.k] 25); simpa using this)
    have hFa_0 : ∀ oo, (((w.alloc (Obj.cells #[.int .i64 a.pc, .int .i64 a.len, (.slice Aa1 a.ops.length ca1), .int .i64 a.fin, .int .i64 a.x, .int .i64 a.y, .int .i64 a.k] 25)).alloc (Obj.cells #[.int .i64 b.pc, .int .i64 b.len, (.slice Ab1 b.ops.length cb1), .int .i64 b.fin, .int .i64 b.x, .int .i64 b.y, .int .i64 b.k] 25))).frozen? ⟨w.heap.size, oo, none⟩ = false := fun oo => by simp
    have hBb_0 : Bx ((w.alloc (Obj.cells #[.int .i64 a.pc, .int .i64 a.len, (.slice Aa1 a.ops.length ca1), .int .i64 a.fin, .int .i64 a.x, .int .i64 a.y, .int .i64 a.k] 25)).alloc (Obj.cells #[.int .i64 b.pc, .int .i64 b.len, (.slice Ab1 b.ops.length cb1), .int .i64 b.fin, .int .i64 b.x, .int .i64 b.y, .int .i64 b.k] 25)) (w.heap.size + 1) [.int .i64 b.pc, .int .i64 b.len, (.slice Ab1 b.ops.length cb1), .int .i64 b.fin, .int .i64 b.x, .int .i64 b.y, .int .i64 b.k] := (by have := (Bx.new (w.alloc (Obj.cells #[.int .i64 a.pc, .int .i64 a.len, (.slice Aa1 a.ops.length ca1), .int .i64 a.fin, .int .i64 a.x, .int .i64 a.y, .int .i64 a.k] 25)) #[.int .i64 b.pc, .int .i64 b.len, (.slice Ab1 b.ops.length cb1), .int .i64 b.fin, .int .i64 b.x, .int .i64 b.y, .int .i64 b.k] 25); simpa using this)
    have hFb_0 : ∀ oo, (((w.alloc (Obj.cells #[.int .i64 a.pc, .int .i64 a.len, (.slice Aa1 a.ops.length ca1), .int .i64 a.fin, .int .i64 a.x, .int .i64 a.y, .int .i64 a.k] 25)).alloc (Obj.cells #[.int .i64 b.pc, .int .i64 b.len, (.slice Ab1 b.ops.length cb1), .int .i64 b.fin, .int .i64 b.x, .int .i64 b.y, .int .i64 b.k] 25))).frozen? ⟨w.heap.size + 1, oo, none⟩ = false := fun oo => by simp
    generalize ((w.alloc (Obj.cells #[.int .i64 a.pc, .int .i64 a.len, (.slice Aa1 a.ops.length ca1), .int .i64 a.fin, .int .i64 a.x, .int .i64 a.y, .int .i64 a.k] 25)).alloc (Obj.cells #[.int .i64 b.pc, .int .i64 b.len, (.slice Ab1 b.ops.length cb1), .int .i64 b.fin, .int .i64 b.x, .int .i64 b.y, .int .i64 b.k] 25)) = w0 at *
    have ya : w.heap.size < w0.heap.size := by omega
    have xa0 := hBa_0 0 _ rfl
    have xa1 := hBa_0 1 _ rfl
    have xa2 := hBa_0 2 _ rfl
    have xa3 := hBa_0 3 _ rfl
    have xa4 := hBa_0 4 _ rfl
    have xa5 := hBa_0 5 _ rfl
    have xa6 := hBa_0 6 _ rfl
    have yb : w.heap.size + 1 < w0.heap.size := by omega
    have xb0 := hBb_0 0 _ rfl
    have xb1 := hBb_0 1 _ rfl
    have xb2 := hBb_0 2 _ rfl
    have xb3 := hBb_0 3 _ rfl
    have xb4 := hBb_0 4 _ rfl
    have xb5 := hBb_0 5 _ rfl
    have xb6 := hBb_0 6 _ rfl
    go_wp2
    go_ret
    exact ⟨by rw [HC.out]; rfl, Ext.hold he0⟩
  have q4 : (a.y != b.y) = false := by simp [h4]
  have H4 := hide h4
  clear h4
  by_cases h5 : a.k = b.k
  rotate_left
  · 
    have q5 : (a.k != b.k) = true := by simp [h5]
    have HC := hide (show decide (a = b) = false from decide_eq_false (fun e => h5 (by rw [e])))
    clear h5
    go_enter Try.func10, Try.ntmps10
    go_upto_region 1 with fail
    have he0 : Ext w ((w.alloc (Obj.cells #[.int .i64 a.pc, .int .i64 a.len, (.slice Aa1 a.ops.length ca1), .int .i64 a.fin, .int .i64 a.x, .int .i64 a.y, .int .i64 a.k] 25)).alloc (Obj.cells #[.int .i64 b.pc, .int .i64 b.len, (.slice Ab1 b.ops.length cb1), .int .i64 b.fin, .int .i64 b.x, .int .i64 b.y, .int .i64 b.k] 25)) := (Ext.auto)
    have hs0 : w.heap.size + 2 ≤ (((w.alloc (Obj.cells #[.int .i64 a.pc, .int .i64 a.len, (.slice Aa1 a.ops.length ca1), .int .i64 a.fin, .int .i64 a.x, .int .i64 a.y, .int .i64 a.k] 25)).alloc (Obj.cells #[.int .i64 b.pc, .int .i64 b.len, (.slice Ab1 b.ops.length cb1), .int .i64 b.fin, .int .i64 b.x, .int .i64 b.y, .int .i64 b.k] 25))).heap.size := by simp
    have hq0 := hide (show (((w.alloc (Obj.cells #[.int .i64 a.pc, .int .i64 a.len, (.slice Aa1 a.ops.length ca1), .int .i64 a.fin, .int .i64 a.x, .int .i64 a.y, .int .i64 a.k] 25)).alloc (Obj.cells #[.int .i64 b.pc, .int .i64 b.len, (.slice Ab1 b.ops.length cb1), .int .i64 b.fin, .int .i64 b.x, .int .i64 b.y, .int .i64 b.k] 25))).heap.size = w.heap.size + 2 by simp)
    have hBa_0 : Bx ((w.alloc (Obj.cells #[.int .i64 a.pc, .int .i64 a.len, (.slice Aa1 a.ops.length ca1), .int .i64 a.fin, .int .i64 a.x, .int .i64 a.y, .int .i64 a.k] 25)).alloc (Obj.cells #[.int .i64 b.pc, .int .i64 b.len, (.slice Ab1 b.ops.length cb1), .int .i64 b.fin, .int .i64 b.x, .int .i64 b.y, .int .i64 b.k] 25)) (w.heap.size) [.int .i64 a.pc, .int .i64 a.len, (.slice Aa1 a.ops.length ca1), .int .i64 a.fin, .int .i64 a.x, .int .i64 a.y, .int .i64 a.k] := (by have := (Bx.alloc (Bx.new w #[.int .i64 a.pc, .int .i64 a.len, (.slice Aa1 a.ops.length ca1), .int .i64 a.fin, .int .i64 a.x, .int .i64 a.y, .int .i64 a.k] 25) (by simp) #[.int .i64 b.pc, .int .i64 b.len, (.slice Ab1 b.ops.length cb1), .int .i64 b.fin, .int .i64 b.x, .int .i64 b.y, .int .i64 b.k] 25); simpa using this)
    have hFa_0 : ∀ oo, (((w.alloc (Obj.cells #[.int .i64 a.pc, .int .i64 a.len, (.slice Aa1 a.ops.length ca1), .int .i64 a.fin, .int .i64 a.x, .int .i64 a.y, .int .i64 a.k] 25)).alloc (Obj.cells #[.int .i64 b.pc, .int .i64 b.len, (.slice Ab1 b.ops.length cb1), .int .i64 b.fin, .int .i64 b.x, .int .i64 b.y, .int .i64 b.k] 25))).frozen? ⟨w.heap.size, oo, none⟩ = false := fun oo => by simp
    have hBb_0 : Bx ((w.alloc (Obj.cells #[.int .i64 a.pc, .int .i64 a.len, (.slice Aa1 a.ops.length ca1), .int .i64 a.fin, .int .i64 a.x, .int .i64 a.y, .int .i64 a.k] 25)).alloc (Obj.cells #[.int .i64 b.pc, .int .i64 b.len, (.slice Ab1 b.ops.length cb1), .int .i64 b.fin, .int .i64 b.x, .int .i64 b.y, .int .i64 b.k] 25)) (w.heap.size + 1) [.int .i64 b.pc, .int .i64 b.len, (.slice Ab1 b.ops.length cb1), .int .i64 b.fin, .int .i64 b.x, .int .i64 b.y, .int .i64 b.k] := (by have := (Bx.new (w.alloc (Obj.cells #[.int .i64 a.pc, .int .i64 a.len, (.slice Aa1 a.ops.length ca1), .int .i64 a.fin, .int .i64 a.x, .int .i64 a.y, .int .i64 a.k] 25)) #[.int .i64 b.pc, .int .i64 b.len, (.slice Ab1 b.ops.length cb1), .int .i64 b.fin, .int .i64 b.x, .int .i64 b.y, .int .i64 b.k] 25); simpa using this)
    have hFb_0 : ∀ oo, (((w.alloc (Obj.cells #[.int .i64 a.pc, .int .i64 a.len, (.slice Aa1 a.ops.length ca1), .int .i64 a.fin, .int .i64 a.x, .int .i64 a.y, .int .i64 a.k] 25)).alloc (Obj.cells #[.int .i64 b.pc, .int .i64 b.len, (.slice Ab1 b.ops.length cb1), .int .i64 b.fin, .int .i64 b.x, .int .i64 b.y, .int .i64 b.k] 25))).frozen? ⟨w.heap.size + 1, oo, none⟩ = false := fun oo => by simp
    generalize ((w.alloc (Obj.cells #[.int .i64 a.pc, .int .i64 a.len, (.slice Aa1 a.ops.length ca1), .int .i64 a.fin, .int .i64 a.x, .int .i64 a.y, .int .i64 a.k] 25)).alloc (Obj.cells #[.int .i64 b.pc, .int .i64 b.len, (.slice Ab1 b.ops.length cb1), .int .i64 b.fin, .int .i64 b.x, .int .i64 b.y, .int .i64 b.k] 25)) = w0 at *
    have ya : w.heap.size < w0.heap.size := by omega
    have xa0 := hBa_0 0 _ rfl
    have xa1 := hBa_0 1 _ rfl
    have xa2 := hBa_0 2 _ rfl
    have xa3 := hBa_0 3 _ rfl
    have xa4 := hBa_0 4 _ rfl
    have xa5 := hBa_0 5 _ rfl
    have xa6 := hBa_0 6 _ rfl
    have yb : w.heap.size + 1 < w0.heap.size := by omega
    have xb0 := hBb_0 0 _ rfl
    have xb1 := hBb_0 1 _ rfl
    have xb2 := hBb_0 2 _ rfl
    have xb3 := hBb_0 3 _ rfl
    have xb4 := hBb_0 4 _ rfl
    have xb5 := hBb_0 5 _ rfl
    have xb6 := hBb_0 6 _ rfl
    go_wp2
    go_ret
    exact ⟨by rw [HC.out]; rfl, Ext.hold he0⟩
  have q5 : (a.k != b.k) = false := by simp [h5]
  have H5 := hide h5
  clear h5
  by_cases hl : a.ops.length = b.ops.length
  rotate_left
  · 
    have q6 : ((a.ops.length : Int) != (b.ops.length : Int)) = true := by simp; omega
    have HC := hide (show decide (a = b) = false from decide_eq_false (fun e => hl (by rw [e])))
    clear hl
    go_enter Try.func10, Try.ntmps10
    go_upto_region 1 with fail
    have he0 : Ext w ((w.alloc (Obj.cells #[.int .i64 a.pc, .int .i64 a.len, (.slice Aa1 a.ops.length ca1), .int .i64 a.fin, .int .i64 a.x, .int .i64 a.y, .int .i64 a.k] 25)).alloc (Obj.cells #[.int .i64 b.pc, .int .i64 b.len, (.slice Ab1 b.ops.length cb1), .int .i64 b.fin, .int .i64 b.x, .int .i64 b.y, .int .i64 b.k] 25)) := (Ext.auto)
    have hs0 : w.heap.size + 2 ≤ (((w.alloc (Obj.cells #[.int .i64 a.pc, .int .i64 a.len, (.slice Aa1 a.ops.length ca1), .int .i64 a.fin, .int .i64 a.x, .int .i64 a.y, .int .i64 a.k] 25)).alloc (Obj.cells #[.int .i64 b.pc, .int .i64 b.len, (.slice Ab1 b.ops.length cb1), .int .i64 b.fin, .int .i64 b.x, .int .i64 b.y, .int .i64 b.k] 25))).heap.size := by simp
    have hq0 := hide (show (((w.alloc (Obj.cells #[.int .i64 a.pc, .int .i64 a.len, (.slice Aa1 a.ops.length ca1), .int .i64 a.fin, .int .i64 a.x, .int .i64 a.y, .int .i64 a.k] 25)).alloc (Obj.cells #[.int .i64 b.pc, .int .i64 b.len, (.slice Ab1 b.ops.length cb1), .int .i64 b.fin, .int .i64 b.x, .int .i64 b.y, .int .i64 b.k] 25))).heap.size = w.heap.size + 2 by simp)
    have hBa_0 : Bx ((w.alloc (Obj.cells #[.int .i64 a.pc, .int .i64 a.len, (.slice Aa1 a.ops.length ca1), .int .i64 a.fin, .int .i64 a.x, .int .i64 a.y, .int .i64 a.k] 25)).alloc (Obj.cells #[.int .i64 b.pc, .int .i64 b.len, (.slice Ab1 b.ops.length cb1), .int .i64 b.fin, .int .i64 b.x, .int .i64 b.y, .int .i64 b.k] 25)) (w.heap.size) [.int .i64 a.pc, .int .i64 a.len, (.slice Aa1 a.ops.length ca1), .int .i64 a.fin, .int .i64 a.x, .int .i64 a.y, .int .i64 a.k] := (by have := (Bx.alloc (Bx.new w #[.int .i64 a.pc, .int .i64 a.len, (.slice Aa1 a.ops.length ca1), .int .i64 a.fin, .int .i64 a.x, .int .i64 a.y, .int .i64 a.k] 25) (by simp) #[.int .i64 b.pc, .int .i64 b.len, (.slice Ab1 b.ops.length cb1), .int .i64 b.fin, .int .i64 b.x, .int .i64 b.y, .int .i64 b.k] 25); simpa using this)
    have hFa_0 : ∀ oo, (((w.alloc (Obj.cells #[.int .i64 a.pc, .int .i64 a.len, (.slice Aa1 a.ops.length ca1), .int .i64 a.fin, .int .i64 a.x, .int .i64 a.y, .int .i64 a.k] 25)).alloc (Obj.cells #[.int .i64 b.pc, .int .i64 b.len, (.slice Ab1 b.ops.length cb1), .int .i64 b.fin, .int .i64 b.x, .int .i64 b.y, .int .i64 b.k] 25))).frozen? ⟨w.heap.size, oo, none⟩ = false := fun oo => by simp
    have hBb_0 : Bx ((w.alloc (Obj.cells #[.int .i64 a.pc, .int .i64 a.len, (.slice Aa1 a.ops.length ca1), .int .i64 a.fin, .int .i64 a.x, .int .i64 a.y, .int .i64 a.k] 25)).alloc (Obj.cells #[.int .i64 b.pc, .int .i64 b.len, (.slice Ab1 b.ops.length cb1), .int .i64 b.fin, .int .i64 b.x, .int .i64 b.y, .int .i64 b.k] 25)) (w.heap.size + 1) [.int .i64 b.pc, .int .i64 b.len, (.slice Ab1 b.ops.length cb1), .int .i64 b.fin, .int .i64 b.x, .int .i64 b.y, .int .i64 b.k] := (by have := (Bx.new (w.alloc (Obj.cells #[.int .i64 a.pc, .int .i64 a.len, (.slice Aa1 a.ops.length ca1), .int .i64 a.fin, .int .i64 a.x, .int .i64 a.y, .int .i64 a.k] 25)) #[.int .i64 b.pc, .int .i64 b.len, (.slice Ab1 b.ops.length cb1), .int .i64 b.fin, .int .i64 b.x, .int .i64 b.y, .int .i64 b.k] 25); simpa using this)
    have hFb_0 : ∀ oo, (((w.alloc (Obj.cells #[.int .i64 a.pc, .int .i64 a.len, (.slice Aa1 a.ops.length ca1), .int .i64 a.fin, .int .i64 a.x, .int .i64 a.y, .int .i64 a.k] 25)).alloc (Obj.cells #[.int .i64 b.pc, .int .i64 b.len, (.slice Ab1 b.ops.length cb1), .int .i64 b.fin, .int .i64 b.x, .int .i64 b.y, .int .i64 b.k] 25))).frozen? ⟨w.heap.size + 1, oo, none⟩ = false := fun oo => by simp
    generalize ((w.alloc (Obj.cells #[.int .i64 a.pc, .int .i64 a.len, (.slice Aa1 a.ops.length ca1), .int .i64 a.fin, .int .i64 a.x, .int .i64 a.y, .int .i64 a.k] 25)).alloc (Obj.cells #[.int .i64 b.pc, .int .i64 b.len, (.slice Ab1 b.ops.length cb1), .int .i64 b.fin, .int .i64 b.x, .int .i64 b.y, .int .i64 b.k] 25)) = w0 at *
    have ya : w.heap.size < w0.heap.size := by omega
    have xa0 := hBa_0 0 _ rfl
    have xa1 := hBa_0 1 _ rfl
    have xa2 := hBa_0 2 _ rfl
    have xa3 := hBa_0 3 _ rfl
    have xa4 := hBa_0 4 _ rfl
    have xa5 := hBa_0 5 _ rfl
    have xa6 := hBa_0 6 _ rfl
    have yb : w.heap.size + 1 < w0.heap.size := by omega
    have xb0 := hBb_0 0 _ rfl
    have xb1 := hBb_0 1 _ rfl
    have xb2 := hBb_0 2 _ rfl
    have xb3 := hBb_0 3 _ rfl
    have xb4 := hBb_0 4 _ rfl
    have xb5 := hBb_0 5 _ rfl
    have xb6 := hBb_0 6 _ rfl
    go_wp2
    go_ret
    exact ⟨by rw [HC.out]; rfl, Ext.hold he0⟩
  have q6 : ((a.ops.length : Int) != (b.ops.length : Int)) = false := by simp [hl]
  have HL := hide hl
  clear hl
  have HY := hide (fun (e : a.ops = b.ops) => (show decide (a = b) = true from decide_eq_true ((IrBlock.same_iff a b).2 ⟨H0.out, H1.out, H2.out, H3.out, H4.out, H5.out, e⟩)))
  have HN := hide (fun (e : ¬ a.ops = b.ops) => (show decide (a = b) = false from decide_eq_false (fun q => e (by rw [q]))))
  go_enter Try.func10, Try.ntmps10
  go_upto_region 1 with fail
  have he0 : Ext w ((w.alloc (Obj.cells #[.int .i64 a.pc, .int .i64 a.len, (.slice Aa1 a.ops.length ca1), .int .i64 a.fin, .int .i64 a.x, .int .i64 a.y, .int .i64 a.k] 25)).alloc (Obj.cells #[.int .i64 b.pc, .int .i64 b.len, (.slice Ab1 b.ops.length cb1), .int .i64 b.fin, .int .i64 b.x, .int .i64 b.y, .int .i64 b.k] 25)) := (Ext.auto)
  have hs0 : w.heap.size + 2 ≤ (((w.alloc (Obj.cells #[.int .i64 a.pc, .int .i64 a.len, (.slice Aa1 a.ops.length ca1), .int .i64 a.fin, .int .i64 a.x, .int .i64 a.y, .int .i64 a.k] 25)).alloc (Obj.cells #[.int .i64 b.pc, .int .i64 b.len, (.slice Ab1 b.ops.length cb1), .int .i64 b.fin, .int .i64 b.x, .int .i64 b.y, .int .i64 b.k] 25))).heap.size := by simp
  have hq0 := hide (show (((w.alloc (Obj.cells #[.int .i64 a.pc, .int .i64 a.len, (.slice Aa1 a.ops.length ca1), .int .i64 a.fin, .int .i64 a.x, .int .i64 a.y, .int .i64 a.k] 25)).alloc (Obj.cells #[.int .i64 b.pc, .int .i64 b.len, (.slice Ab1 b.ops.length cb1), .int .i64 b.fin, .int .i64 b.x, .int .i64 b.y, .int .i64 b.k] 25))).heap.size = w.heap.size + 2 by simp)
  have hBa_0 : Bx ((w.alloc (Obj.cells #[.int .i64 a.pc, .int .i64 a.len, (.slice Aa1 a.ops.length ca1), .int .i64 a.fin, .int .i64 a.x, .int .i64 a.y, .int .i64 a.k] 25)).alloc (Obj.cells #[.int .i64 b.pc, .int .i64 b.len, (.slice Ab1 b.ops.length cb1), .int .i64 b.fin, .int .i64 b.x, .int .i64 b.y, .int .i64 b.k] 25)) (w.heap.size) [.int .i64 a.pc, .int .i64 a.len, (.slice Aa1 a.ops.length ca1), .int .i64 a.fin, .int .i64 a.x, .int .i64 a.y, .int .i64 a.k] := (by have := (Bx.alloc (Bx.new w #[.int .i64 a.pc, .int .i64 a.len, (.slice Aa1 a.ops.length ca1), .int .i64 a.fin, .int .i64 a.x, .int .i64 a.y, .int .i64 a.k] 25) (by simp) #[.int .i64 b.pc, .int .i64 b.len, (.slice Ab1 b.ops.length cb1), .int .i64 b.fin, .int .i64 b.x, .int .i64 b.y, .int .i64 b.k] 25); simpa using this)
  have hFa_0 : ∀ oo, (((w.alloc (Obj.cells #[.int .i64 a.pc, .int .i64 a.len, (.slice Aa1 a.ops.length ca1), .int .i64 a.fin, .int .i64 a.x, .int .i64 a.y, .int .i64 a.k] 25)).alloc (Obj.cells #[.int .i64 b.pc, .int .i64 b.len, (.slice Ab1 b.ops.length cb1), .int .i64 b.fin, .int .i64 b.x, .int .i64 b.y, .int .i64 b.k] 25))).frozen? ⟨w.heap.size, oo, none⟩ = false := fun oo => by simp
  have hBb_0 : Bx ((w.alloc (Obj.cells #[.int .i64 a.pc, .int .i64 a.len, (.slice Aa1 a.ops.length ca1), .int .i64 a.fin, .int .i64 a.x, .int .i64 a.y, .int .i64 a.k] 25)).alloc (Obj.cells #[.int .i64 b.pc, .int .i64 b.len, (.slice Ab1 b.ops.length cb1), .int .i64 b.fin, .int .i64 b.x, .int .i64 b.y, .int .i64 b.k] 25)) (w.heap.size + 1) [.int .i64 b.pc, .int .i64 b.len, (.slice Ab1 b.ops.length cb1), .int .i64 b.fin, .int .i64 b.x, .int .i64 b.y, .int .i64 b.k] := (by have := (Bx.new (w.alloc (Obj.cells #[.int .i64 a.pc, .int .i64 a.len, (.slice Aa1 a.ops.length ca1), .int .i64 a.fin, .int .i64 a.x, .int .i64 a.y, .int .i64 a.k] 25)) #[.int .i64 b.pc, .int .i64 b.len, (.slice Ab1 b.ops.length cb1), .int .i64 b.fin, .int .i64 b.x, .int .i64 b.y, .int .i64 b.k] 25); simpa using this)
  have hFb_0 : ∀ oo, (((w.alloc (Obj.cells #[.int .i64 a.pc, .int .i64 a.len, (.slice Aa1 a.ops.length ca1), .int .i64 a.fin, .int .i64 a.x, .int .i64 a.y, .int .i64 a.k] 25)).alloc (Obj.cells #[.int .i64 b.pc, .int .i64 b.len, (.slice Ab1 b.ops.length cb1), .int .i64 b.fin, .int .i64 b.x, .int .i64 b.y, .int .i64 b.k] 25))).frozen? ⟨w.heap.size + 1, oo, none⟩ = false := fun oo => by simp
  generalize ((w.alloc (Obj.cells #[.int .i64 a.pc, .int .i64 a.len, (.slice Aa1 a.ops.length ca1), .int .i64 a.fin, .int .i64 a.x, .int .i64 a.y, .int .i64 a.k] 25)).alloc (Obj.cells #[.int .i64 b.pc, .int .i64 b.len, (.slice Ab1 b.ops.length cb1), .int .i64 b.fin, .int .i64 b.x, .int .i64 b.y, .int .i64 b.k] 25)) = w0 at *
  have ya : w.heap.size < w0.heap.size := by omega
  have xa0 := hBa_0 0 _ rfl
  have xa1 := hBa_0 1 _ rfl
  have xa2 := hBa_0 2 _ rfl
  have xa3 := hBa_0 3 _ rfl
  have xa4 := hBa_0 4 _ rfl
  have xa5 := hBa_0 5 _ rfl
  have xa6 := hBa_0 6 _ rfl
  have yb : w.heap.size + 1 < w0.heap.size := by omega
  have xb0 := hBb_0 0 _ rfl
  have xb1 := hBb_0 1 _ rfl
  have xb2 := hBb_0 2 _ rfl
  have xb3 := hBb_0 3 _ rfl
  have xb4 := hBb_0 4 _ rfl
  have xb5 := hBb_0 5 _ rfl
  have xb6 := hBb_0 6 _ rfl
  go_wp2
  clear xa0 xa1 xa2 xa3 xa4 xa5 xa6 ya
  clear xb0 xb1 xb2 xb3 xb4 xb5 xb6 yb
  clear q0 q1 q2 q3 q4 q5 q6
  go_loopw [5] (fun i wr => ∃ k : Nat, k ≤ a.ops.length ∧ i = .int .i64 k ∧ Ext w0 wr ∧ a.ops.take k = b.ops.take k) (fun i _ => a.ops.length - (intOf i).toNat)
  case atStart => exact ⟨0, by omega, rfl, Ext.refl _, rfl⟩
  case round =>
    obtain ⟨w1, hwr⟩ : ∃ w1 : World, w1 = wr := ⟨_, rfl⟩
    subst hwr
    obtain ⟨k, hk, rfl, hy, ht⟩ := hrel
    have HT := hide ht
    clear ht
    have hE1 := hy
    have hx1 : Ext w0 w1 := Ext.trans (Ext.auto) hy
    have hs1 := hx1.size
    have he1 : Ext w w1 := he0.trans hx1
    have hBa_1 : Bx w1 (w.heap.size) [.int .i64 a.pc, .int .i64 a.len, (.slice Aa1 a.ops.length ca1), .int .i64 a.fin, .int .i64 a.x, .int .i64 a.y, .int .i64 a.k] := hx1.bx hBa_0 (by omega)
    have hFa_1 : ∀ oo, w1.frozen? ⟨w.heap.size, oo, none⟩ = false := fun oo => (hx1.frozen (by omega)).trans (hFa_0 oo)
    have hBb_1 : Bx w1 (w.heap.size + 1) [.int .i64 b.pc, .int .i64 b.len, (.slice Ab1 b.ops.length cb1), .int .i64 b.fin, .int .i64 b.x, .int .i64 b.y, .int .i64 b.k] := hx1.bx hBb_0 (by omega)
    have hFb_1 : ∀ oo, w1.frozen? ⟨w.heap.size + 1, oo, none⟩ = false := fun oo => (hx1.frozen (by omega)).trans (hFb_0 oo)
    clear hBa_0 hFa_0 hBb_0 hFb_0
    clear hy
    by_cases hlt : k < a.ops.length
    · 
      have hlt' : k < b.ops.length := by have := HL.out; omega
      obtain ⟨b1, off, rfl, hbo, hk0, e0, e1, e2, e3, e4⟩ := at_IrOp (ha1.ext he1) hlt
      obtain ⟨b1', off', rfl, hbo', hk0', g0, g1, g2, g3, g4⟩ := at_IrOp (hb1.ext he1) hlt'
      have z0 : (0 : Int) ≤ (k : Int) := by omega
      have z1 : (k : Int) < (a.ops.length : Int) := by omega
      have z2 : (k : Int) < (b.ops.length : Int) := by omega
      have TS := hide (take_both a.ops b.ops k hlt hlt' HT.out)
      have ya : w.heap.size < w1.heap.size := by omega
      have xa0 := hBa_1 0 _ rfl
      have xa1 := hBa_1 1 _ rfl
      have xa2 := hBa_1 2 _ rfl
      have xa3 := hBa_1 3 _ rfl
      have xa4 := hBa_1 4 _ rfl
      have xa5 := hBa_1 5 _ rfl
      have xa6 := hBa_1 6 _ rfl
      have yb : w.heap.size + 1 < w1.heap.size := by omega
      have xb0 := hBb_1 0 _ rfl
      have xb1 := hBb_1 1 _ rfl
      have xb2 := hBb_1 2 _ rfl
      have xb3 := hBb_1 3 _ rfl
      have xb4 := hBb_1 4 _ rfl
      have xb5 := hBb_1 5 _ rfl
      have xb6 := hBb_1 6 _ rfl
      by_cases hq : a.ops[k] = b.ops[k]
      · 
        have d1 : ∀ w, (binOp .neq 58 (.agg #[.int .i64 (a.ops[k].kind), .int .i64 (a.ops[k].x), .int .i64 (a.ops[k].y), .int .i64 (a.ops[k].k), .int .i64 (a.ops[k].at_)]) (.agg #[.int .i64 (b.ops[k].kind), .int .i64 (b.ops[k].x), .int .i64 (b.ops[k].y), .int .i64 (b.ops[k].k), .int .i64 (b.ops[k].at_)])).run Try.prog w = .ok (.bool false) w := fun w => by rw [neqIrOp]; simp [hq]
        have HQ := hide hq
        clear hq
        go_wp2_with fail
        go_quiet (fail)
        go_wp2
        go_roundw
        case rel => exact ⟨k + 1, by omega, by go_num, hE1.drewN _, TS.out.1 HQ.out⟩
        case measure => simp [intOf]; omega
      · 
        have d1 : ∀ w, (binOp .neq 58 (.agg #[.int .i64 (a.ops[k].kind), .int .i64 (a.ops[k].x), .int .i64 (a.ops[k].y), .int .i64 (a.ops[k].k), .int .i64 (a.ops[k].at_)]) (.agg #[.int .i64 (b.ops[k].kind), .int .i64 (b.ops[k].x), .int .i64 (b.ops[k].y), .int .i64 (b.ops[k].k), .int .i64 (b.ops[k].at_)])).run Try.prog w = .ok (.bool true) w := fun w => by rw [neqIrOp]; simp [hq]
        have HQ := hide hq
        clear hq
        go_wp2_with fail
        go_quiet (fail)
        go_wp2
        go_ret
        exact ⟨by rw [HN.out (TS.out.2 HQ.out)]; rfl, (he0.trans hE1).drewN _⟩
    · 
      have ya : w.heap.size < w1.heap.size := by omega
      have xa0 := hBa_1 0 _ rfl
      have xa1 := hBa_1 1 _ rfl
      have xa2 := hBa_1 2 _ rfl
      have xa3 := hBa_1 3 _ rfl
      have xa4 := hBa_1 4 _ rfl
      have xa5 := hBa_1 5 _ rfl
      have xa6 := hBa_1 6 _ rfl
      have yb : w.heap.size + 1 < w1.heap.size := by omega
      have xb0 := hBb_1 0 _ rfl
      have xb1 := hBb_1 1 _ rfl
      have xb2 := hBb_1 2 _ rfl
      have xb3 := hBb_1 3 _ rfl
      have xb4 := hBb_1 4 _ rfl
      have xb5 := hBb_1 5 _ rfl
      have xb6 := hBb_1 6 _ rfl
      obtain rfl : k = a.ops.length := by omega
      have HF := hide (HY.out (take_all a.ops b.ops HL.out HT.out))
      go_wp2
      go_ret
      exact ⟨by rw [HF.out]; rfl, he0.trans hE1⟩

end Go.Proofs.Yteaacelfnkiboaa
