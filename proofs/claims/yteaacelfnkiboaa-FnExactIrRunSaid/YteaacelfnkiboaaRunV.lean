/-
  Leaving a piece of code: the reference.
-/
import Derived.Test.YteaacelfnkiboaaRunPure
import Derived.Test.YteaacelfnkiboaaMachOk
import Derived.Test.YteaacelfnkiboaaMachLib
import Derived.Deep.DeepCutAuto
namespace Go.Proofs.Yteaacelfnkiboaa
open Go.RowKit

set_option linter.unusedVariables false
set_option linter.unusedSimpArgs false
set_option maxRecDepth 100000

set_option maxHeartbeats 8000000 in
theorem l6Leave_any (m : MchMach) (b : IrBlock) (n h : Int) (h1 : 0 ≤ b.pc ∧ b.pc ≤ 64) (h2 : 0 ≤ n ∧ n ≤ 65) (h3 : 0 ≤ m.count ∧ m.count ≤ 1000000) (vb : Value) (A1 A2 A3 A4 : Option Addr) (n1 c1 n2 c2 n3 c3 n4 c4 : Nat) (w : World) :
    Calls Try.prog 88 #[.agg #[(.slice A1 n1 c1), .int .i64 m.pc, (.slice A2 n2 c2), .int .i64 m.save, .bool m.lets, .bool m.waits, .int .i64 m.halt, (.slice A3 n3 c3), (.slice A4 n4 c4), .int .i64 m.count], .agg #[.int .i64 b.pc, .int .i64 b.len, vb, .int .i64 b.fin, .int .i64 b.x, .int .i64 b.y, .int .i64 b.k], .int .i64 n, .int .i64 h] w fun e w' => e = .returned (.agg #[(.slice A1 n1 c1), .int .i64 ((rLeave b m n h).pc), (.slice A2 n2 c2), .int .i64 ((rLeave b m n h).save), .bool (rLeave b m n h).lets, .bool (rLeave b m n h).waits, .int .i64 ((rLeave b m n h).halt), (.slice A3 n3 c3), (.slice A4 n4 c4), .int .i64 ((rLeave b m n h).count)]) ∧ Ext w w' := by
  have zw1 : IntKind.i64.wrap (b.pc + n) = b.pc + n := by rw [IntKind.wrap_i64]; omega
  have zw2 : IntKind.i64.wrap (m.count + n) = m.count + n := by rw [IntKind.wrap_i64]; omega
  clear h1 h2 h3
  go_enter Try.func88, Try.ntmps88
  go_upto_region 1 with fail
  have he0 : Ext w (((w.alloc (Obj.cells #[(.slice A1 n1 c1), .int .i64 m.pc, (.slice A2 n2 c2), .int .i64 m.save, .bool m.lets, .bool m.waits, .int .i64 m.halt, (.slice A3 n3 c3), (.slice A4 n4 c4), .int .i64 m.count] 46)).alloc (Obj.cells #[.int .i64 b.pc, .int .i64 b.len, vb, .int .i64 b.fin, .int .i64 b.x, .int .i64 b.y, .int .i64 b.k] 25)).alloc (Obj.cells #[.slice none 0 0, .int .i64 0, .slice none 0 0, .int .i64 0, .bool false, .bool false, .int .i64 0, .slice none 0 0, .slice none 0 0, .int .i64 0] 46)) := (Ext.auto)
  have hs0 : w.heap.size + 3 ≤ ((((w.alloc (Obj.cells #[(.slice A1 n1 c1), .int .i64 m.pc, (.slice A2 n2 c2), .int .i64 m.save, .bool m.lets, .bool m.waits, .int .i64 m.halt, (.slice A3 n3 c3), (.slice A4 n4 c4), .int .i64 m.count] 46)).alloc (Obj.cells #[.int .i64 b.pc, .int .i64 b.len, vb, .int .i64 b.fin, .int .i64 b.x, .int .i64 b.y, .int .i64 b.k] 25)).alloc (Obj.cells #[.slice none 0 0, .int .i64 0, .slice none 0 0, .int .i64 0, .bool false, .bool false, .int .i64 0, .slice none 0 0, .slice none 0 0, .int .i64 0] 46))).heap.size := by simp
  have hq0 := hide (show ((((w.alloc (Obj.cells #[(.slice A1 n1 c1), .int .i64 m.pc, (.slice A2 n2 c2), .int .i64 m.save, .bool m.lets, .bool m.waits, .int .i64 m.halt, (.slice A3 n3 c3), (.slice A4 n4 c4), .int .i64 m.count] 46)).alloc (Obj.cells #[.int .i64 b.pc, .int .i64 b.len, vb, .int .i64 b.fin, .int .i64 b.x, .int .i64 b.y, .int .i64 b.k] 25)).alloc (Obj.cells #[.slice none 0 0, .int .i64 0, .slice none 0 0, .int .i64 0, .bool false, .bool false, .int .i64 0, .slice none 0 0, .slice none 0 0, .int .i64 0] 46))).heap.size = w.heap.size + 3 by simp)
  have hBm_0 : Bx (((w.alloc (Obj.cells #[(.slice A1 n1 c1), .int .i64 m.pc, (.slice A2 n2 c2), .int .i64 m.save, .bool m.lets, .bool m.waits, .int .i64 m.halt, (.slice A3 n3 c3), (.slice A4 n4 c4), .int .i64 m.count] 46)).alloc (Obj.cells #[.int .i64 b.pc, .int .i64 b.len, vb, .int .i64 b.fin, .int .i64 b.x, .int .i64 b.y, .int .i64 b.k] 25)).alloc (Obj.cells #[.slice none 0 0, .int .i64 0, .slice none 0 0, .int .i64 0, .bool false, .bool false, .int .i64 0, .slice none 0 0, .slice none 0 0, .int .i64 0] 46)) (w.heap.size) [(.slice A1 n1 c1), .int .i64 m.pc, (.slice A2 n2 c2), .int .i64 m.save, .bool m.lets, .bool m.waits, .int .i64 m.halt, (.slice A3 n3 c3), (.slice A4 n4 c4), .int .i64 m.count] := (by have := (Bx.alloc (Bx.alloc (Bx.new w #[(.slice A1 n1 c1), .int .i64 m.pc, (.slice A2 n2 c2), .int .i64 m.save, .bool m.lets, .bool m.waits, .int .i64 m.halt, (.slice A3 n3 c3), (.slice A4 n4 c4), .int .i64 m.count] 46) (by simp) #[.int .i64 b.pc, .int .i64 b.len, vb, .int .i64 b.fin, .int .i64 b.x, .int .i64 b.y, .int .i64 b.k] 25) (by first | (simp; done) | (simp; omega)) #[.slice none 0 0, .int .i64 0, .slice none 0 0, .int .i64 0, .bool false, .bool false, .int .i64 0, .slice none 0 0, .slice none 0 0, .int .i64 0] 46); simpa using this)
  have hFm_0 : ∀ oo, ((((w.alloc (Obj.cells #[(.slice A1 n1 c1), .int .i64 m.pc, (.slice A2 n2 c2), .int .i64 m.save, .bool m.lets, .bool m.waits, .int .i64 m.halt, (.slice A3 n3 c3), (.slice A4 n4 c4), .int .i64 m.count] 46)).alloc (Obj.cells #[.int .i64 b.pc, .int .i64 b.len, vb, .int .i64 b.fin, .int .i64 b.x, .int .i64 b.y, .int .i64 b.k] 25)).alloc (Obj.cells #[.slice none 0 0, .int .i64 0, .slice none 0 0, .int .i64 0, .bool false, .bool false, .int .i64 0, .slice none 0 0, .slice none 0 0, .int .i64 0] 46))).frozen? ⟨w.heap.size, oo, none⟩ = false := (fz_alloc (fz_alloc (fz_new w #[(.slice A1 n1 c1), .int .i64 m.pc, (.slice A2 n2 c2), .int .i64 m.save, .bool m.lets, .bool m.waits, .int .i64 m.halt, (.slice A3 n3 c3), (.slice A4 n4 c4), .int .i64 m.count] 46 (by first | rfl | (simp; done))) (by first | (simp; done) | (simp; omega)) (Obj.cells #[.int .i64 b.pc, .int .i64 b.len, vb, .int .i64 b.fin, .int .i64 b.x, .int .i64 b.y, .int .i64 b.k] 25)) (by first | (simp; done) | (simp; omega)) (Obj.cells #[.slice none 0 0, .int .i64 0, .slice none 0 0, .int .i64 0, .bool false, .bool false, .int .i64 0, .slice none 0 0, .slice none 0 0, .int .i64 0] 46))
  have hBb_0 : Bx (((w.alloc (Obj.cells #[(.slice A1 n1 c1), .int .i64 m.pc, (.slice A2 n2 c2), .int .i64 m.save, .bool m.lets, .bool m.waits, .int .i64 m.halt, (.slice A3 n3 c3), (.slice A4 n4 c4), .int .i64 m.count] 46)).alloc (Obj.cells #[.int .i64 b.pc, .int .i64 b.len, vb, .int .i64 b.fin, .int .i64 b.x, .int .i64 b.y, .int .i64 b.k] 25)).alloc (Obj.cells #[.slice none 0 0, .int .i64 0, .slice none 0 0, .int .i64 0, .bool false, .bool false, .int .i64 0, .slice none 0 0, .slice none 0 0, .int .i64 0] 46)) (w.heap.size + 1) [.int .i64 b.pc, .int .i64 b.len, vb, .int .i64 b.fin, .int .i64 b.x, .int .i64 b.y, .int .i64 b.k] := (by have := (Bx.alloc (Bx.new (w.alloc (Obj.cells #[(.slice A1 n1 c1), .int .i64 m.pc, (.slice A2 n2 c2), .int .i64 m.save, .bool m.lets, .bool m.waits, .int .i64 m.halt, (.slice A3 n3 c3), (.slice A4 n4 c4), .int .i64 m.count] 46)) #[.int .i64 b.pc, .int .i64 b.len, vb, .int .i64 b.fin, .int .i64 b.x, .int .i64 b.y, .int .i64 b.k] 25) (by simp) #[.slice none 0 0, .int .i64 0, .slice none 0 0, .int .i64 0, .bool false, .bool false, .int .i64 0, .slice none 0 0, .slice none 0 0, .int .i64 0] 46); simpa using this)
  have hFb_0 : ∀ oo, ((((w.alloc (Obj.cells #[(.slice A1 n1 c1), .int .i64 m.pc, (.slice A2 n2 c2), .int .i64 m.save, .bool m.lets, .bool m.waits, .int .i64 m.halt, (.slice A3 n3 c3), (.slice A4 n4 c4), .int .i64 m.count] 46)).alloc (Obj.cells #[.int .i64 b.pc, .int .i64 b.len, vb, .int .i64 b.fin, .int .i64 b.x, .int .i64 b.y, .int .i64 b.k] 25)).alloc (Obj.cells #[.slice none 0 0, .int .i64 0, .slice none 0 0, .int .i64 0, .bool false, .bool false, .int .i64 0, .slice none 0 0, .slice none 0 0, .int .i64 0] 46))).frozen? ⟨w.heap.size + 1, oo, none⟩ = false := (fz_alloc (fz_new (w.alloc (Obj.cells #[(.slice A1 n1 c1), .int .i64 m.pc, (.slice A2 n2 c2), .int .i64 m.save, .bool m.lets, .bool m.waits, .int .i64 m.halt, (.slice A3 n3 c3), (.slice A4 n4 c4), .int .i64 m.count] 46)) #[.int .i64 b.pc, .int .i64 b.len, vb, .int .i64 b.fin, .int .i64 b.x, .int .i64 b.y, .int .i64 b.k] 25 (by first | rfl | (simp; done))) (by first | (simp; done) | (simp; omega)) (Obj.cells #[.slice none 0 0, .int .i64 0, .slice none 0 0, .int .i64 0, .bool false, .bool false, .int .i64 0, .slice none 0 0, .slice none 0 0, .int .i64 0] 46))
  have hBres_0 : Bx (((w.alloc (Obj.cells #[(.slice A1 n1 c1), .int .i64 m.pc, (.slice A2 n2 c2), .int .i64 m.save, .bool m.lets, .bool m.waits, .int .i64 m.halt, (.slice A3 n3 c3), (.slice A4 n4 c4), .int .i64 m.count] 46)).alloc (Obj.cells #[.int .i64 b.pc, .int .i64 b.len, vb, .int .i64 b.fin, .int .i64 b.x, .int .i64 b.y, .int .i64 b.k] 25)).alloc (Obj.cells #[.slice none 0 0, .int .i64 0, .slice none 0 0, .int .i64 0, .bool false, .bool false, .int .i64 0, .slice none 0 0, .slice none 0 0, .int .i64 0] 46)) (w.heap.size + 1 + 1) [.slice none 0 0, .int .i64 0, .slice none 0 0, .int .i64 0, .bool false, .bool false, .int .i64 0, .slice none 0 0, .slice none 0 0, .int .i64 0] := (by have := (Bx.new ((w.alloc (Obj.cells #[(.slice A1 n1 c1), .int .i64 m.pc, (.slice A2 n2 c2), .int .i64 m.save, .bool m.lets, .bool m.waits, .int .i64 m.halt, (.slice A3 n3 c3), (.slice A4 n4 c4), .int .i64 m.count] 46)).alloc (Obj.cells #[.int .i64 b.pc, .int .i64 b.len, vb, .int .i64 b.fin, .int .i64 b.x, .int .i64 b.y, .int .i64 b.k] 25)) #[.slice none 0 0, .int .i64 0, .slice none 0 0, .int .i64 0, .bool false, .bool false, .int .i64 0, .slice none 0 0, .slice none 0 0, .int .i64 0] 46); simpa using this)
  have hFres_0 : ∀ oo, ((((w.alloc (Obj.cells #[(.slice A1 n1 c1), .int .i64 m.pc, (.slice A2 n2 c2), .int .i64 m.save, .bool m.lets, .bool m.waits, .int .i64 m.halt, (.slice A3 n3 c3), (.slice A4 n4 c4), .int .i64 m.count] 46)).alloc (Obj.cells #[.int .i64 b.pc, .int .i64 b.len, vb, .int .i64 b.fin, .int .i64 b.x, .int .i64 b.y, .int .i64 b.k] 25)).alloc (Obj.cells #[.slice none 0 0, .int .i64 0, .slice none 0 0, .int .i64 0, .bool false, .bool false, .int .i64 0, .slice none 0 0, .slice none 0 0, .int .i64 0] 46))).frozen? ⟨w.heap.size + 1 + 1, oo, none⟩ = false := (fz_new ((w.alloc (Obj.cells #[(.slice A1 n1 c1), .int .i64 m.pc, (.slice A2 n2 c2), .int .i64 m.save, .bool m.lets, .bool m.waits, .int .i64 m.halt, (.slice A3 n3 c3), (.slice A4 n4 c4), .int .i64 m.count] 46)).alloc (Obj.cells #[.int .i64 b.pc, .int .i64 b.len, vb, .int .i64 b.fin, .int .i64 b.x, .int .i64 b.y, .int .i64 b.k] 25)) #[.slice none 0 0, .int .i64 0, .slice none 0 0, .int .i64 0, .bool false, .bool false, .int .i64 0, .slice none 0 0, .slice none 0 0, .int .i64 0] 46 (by first | rfl | (simp; done)))
  generalize (((w.alloc (Obj.cells #[(.slice A1 n1 c1), .int .i64 m.pc, (.slice A2 n2 c2), .int .i64 m.save, .bool m.lets, .bool m.waits, .int .i64 m.halt, (.slice A3 n3 c3), (.slice A4 n4 c4), .int .i64 m.count] 46)).alloc (Obj.cells #[.int .i64 b.pc, .int .i64 b.len, vb, .int .i64 b.fin, .int .i64 b.x, .int .i64 b.y, .int .i64 b.k] 25)).alloc (Obj.cells #[.slice none 0 0, .int .i64 0, .slice none 0 0, .int .i64 0, .bool false, .bool false, .int .i64 0, .slice none 0 0, .slice none 0 0, .int .i64 0] 46)) = w0 at *
  have ym : w.heap.size < w0.heap.size := by omega
  have xm0 := hBm_0 0 _ rfl
  have xm1 := hBm_0 1 _ rfl
  have xm2 := hBm_0 2 _ rfl
  have xm3 := hBm_0 3 _ rfl
  have xm4 := hBm_0 4 _ rfl
  have xm5 := hBm_0 5 _ rfl
  have xm6 := hBm_0 6 _ rfl
  have xm7 := hBm_0 7 _ rfl
  have xm8 := hBm_0 8 _ rfl
  have xm9 := hBm_0 9 _ rfl
  have fm := hFm_0
  have yb : w.heap.size + 1 < w0.heap.size := by omega
  have xb0 := hBb_0 0 _ rfl
  have xb1 := hBb_0 1 _ rfl
  have xb2 := hBb_0 2 _ rfl
  have xb3 := hBb_0 3 _ rfl
  have xb4 := hBb_0 4 _ rfl
  have xb5 := hBb_0 5 _ rfl
  have xb6 := hBb_0 6 _ rfl
  have fb := hFb_0
  have yres : w.heap.size + 1 + 1 < w0.heap.size := by omega
  have xres0 := hBres_0 0 _ rfl
  have xres1 := hBres_0 1 _ rfl
  have xres2 := hBres_0 2 _ rfl
  have xres3 := hBres_0 3 _ rfl
  have xres4 := hBres_0 4 _ rfl
  have xres5 := hBres_0 5 _ rfl
  have xres6 := hBres_0 6 _ rfl
  have xres7 := hBres_0 7 _ rfl
  have xres8 := hBres_0 8 _ rfl
  have xres9 := hBres_0 9 _ rfl
  have fres := hFres_0
  go_wp2
  refine bodyPost_ret (v := .agg #[(.slice A1 n1 c1), .int .i64 ((rLeave b m n h).pc), (.slice A2 n2 c2), .int .i64 ((rLeave b m n h).save), .bool (rLeave b m n h).lets, .bool (rLeave b m n h).waits, .int .i64 ((rLeave b m n h).halt), (.slice A3 n3 c3), (.slice A4 n4 c4), .int .i64 ((rLeave b m n h).count)]) (by simp [results, Try.results88, go_sem, rLeave, xres0, xres1, xres2, xres3, xres4, xres5, xres6, xres7, xres8, xres9]) rfl ⟨rfl, Ext.hold he0⟩

end Go.Proofs.Yteaacelfnkiboaa
