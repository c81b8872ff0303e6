/-
  A run through a piece of code: the program.
-/
import Derived.Test.YteaacelfnkiboaaRunB
import Derived.Test.YteaacelfnkiboaaIrOkK
import Derived.Test.YteaacelfnkiboaaMachOk
import Derived.Test.YteaacelfnkiboaaMClone
import Derived.Deep.DeepCutAuto
import Derived.Deep.CutBlock
namespace Go.Proofs.Yteaacelfnkiboaa
open Go.RowKit

set_option linter.unusedVariables false
set_option linter.unusedSimpArgs false
set_option maxRecDepth 100000

set_option maxHeartbeats 64000000 in
theorem implIrRun_any (b : IrBlock) (m : MchMach) (vb1 vm1 vm2 vm3 vm4 : Value) (w : World) (hb1 : Sl w (Old w) vb1 b.ops) (hm1 : Sl w (Old w) vm1 m.regs) (hm2 : Sl w (Old w) vm2 m.mem) (hm3 : Sl w (Old w) vm3 m.ins) (hm4 : Sl w (Old w) vm4 m.outs) (hn1 : m.regs.length ≤ 4194304) (hn2 : m.mem.length ≤ 4194304) (hn3 : m.ins.length ≤ 4194304) (hn4 : m.outs.length ≤ 4194304) (hbo : b.Ok) (hn5 : m.outs.length ≤ 4190000) :
    Calls Try.prog 26 #[.agg #[.int .i64 b.pc, .int .i64 b.len, vb1, .int .i64 b.fin, .int .i64 b.x, .int .i64 b.y, .int .i64 b.k], .agg #[vm1, .int .i64 m.pc, vm2, .int .i64 m.save, .bool m.lets, .bool m.waits, .int .i64 m.halt, vm3, vm4, .int .i64 m.count]] w fun e w' => IrPost w (irRun b m) (irRunOk b m) e w' := by
  obtain ⟨Ab1, cb1, rfl, hlb1, hmb1⟩ := hb1.form
  obtain ⟨Am1, cm1, rfl, hlm1, hmm1⟩ := hm1.form
  obtain ⟨Am2, cm2, rfl, hlm2, hmm2⟩ := hm2.form
  obtain ⟨Am3, cm3, rfl, hlm3, hmm3⟩ := hm3.form
  obtain ⟨Am4, cm4, rfl, hlm4, hmm4⟩ := hm4.form
  cases q0 : irOkB b
  · 
    have HV := hide (show irRun b m = emptyMach by unfold irRun; rw [q0]; rfl)
    have HW := hide (show irRunOk b m = false by unfold irRunOk; rw [q0]; rfl)
    go_enter Try.func26, Try.ntmps26
    go_upto_region 1 with fail
    have he0 : Ext w (((w.alloc (Obj.cells #[.int .i64 b.pc, .int .i64 b.len, (.slice Ab1 b.ops.length cb1), .int .i64 b.fin, .int .i64 b.x, .int .i64 b.y, .int .i64 b.k] 25)).alloc (Obj.cells #[(.slice Am1 m.regs.length cm1), .int .i64 m.pc, (.slice Am2 m.mem.length cm2), .int .i64 m.save, .bool m.lets, .bool m.waits, .int .i64 m.halt, (.slice Am3 m.ins.length cm3), (.slice Am4 m.outs.length cm4), .int .i64 m.count] 46)).alloc (Obj.cells #[.slice none 0 0, .int .i64 0, .slice none 0 0, .int .i64 0, .bool false, .bool false, .int .i64 0, .slice none 0 0, .slice none 0 0, .int .i64 0] 46)) := (Ext.auto)
    have hs0 : w.heap.size + 3 ≤ ((((w.alloc (Obj.cells #[.int .i64 b.pc, .int .i64 b.len, (.slice Ab1 b.ops.length cb1), .int .i64 b.fin, .int .i64 b.x, .int .i64 b.y, .int .i64 b.k] 25)).alloc (Obj.cells #[(.slice Am1 m.regs.length cm1), .int .i64 m.pc, (.slice Am2 m.mem.length cm2), .int .i64 m.save, .bool m.lets, .bool m.waits, .int .i64 m.halt, (.slice Am3 m.ins.length cm3), (.slice Am4 m.outs.length cm4), .int .i64 m.count] 46)).alloc (Obj.cells #[.slice none 0 0, .int .i64 0, .slice none 0 0, .int .i64 0, .bool false, .bool false, .int .i64 0, .slice none 0 0, .slice none 0 0, .int .i64 0] 46))).heap.size := by simp
    have hq0 := hide (show ((((w.alloc (Obj.cells #[.int .i64 b.pc, .int .i64 b.len, (.slice Ab1 b.ops.length cb1), .int .i64 b.fin, .int .i64 b.x, .int .i64 b.y, .int .i64 b.k] 25)).alloc (Obj.cells #[(.slice Am1 m.regs.length cm1), .int .i64 m.pc, (.slice Am2 m.mem.length cm2), .int .i64 m.save, .bool m.lets, .bool m.waits, .int .i64 m.halt, (.slice Am3 m.ins.length cm3), (.slice Am4 m.outs.length cm4), .int .i64 m.count] 46)).alloc (Obj.cells #[.slice none 0 0, .int .i64 0, .slice none 0 0, .int .i64 0, .bool false, .bool false, .int .i64 0, .slice none 0 0, .slice none 0 0, .int .i64 0] 46))).heap.size = w.heap.size + 3 by simp)
    have hBb_0 : Bx (((w.alloc (Obj.cells #[.int .i64 b.pc, .int .i64 b.len, (.slice Ab1 b.ops.length cb1), .int .i64 b.fin, .int .i64 b.x, .int .i64 b.y, .int .i64 b.k] 25)).alloc (Obj.cells #[(.slice Am1 m.regs.length cm1), .int .i64 m.pc, (.slice Am2 m.mem.length cm2), .int .i64 m.save, .bool m.lets, .bool m.waits, .int .i64 m.halt, (.slice Am3 m.ins.length cm3), (.slice Am4 m.outs.length cm4), .int .i64 m.count] 46)).alloc (Obj.cells #[.slice none 0 0, .int .i64 0, .slice none 0 0, .int .i64 0, .bool false, .bool false, .int .i64 0, .slice none 0 0, .slice none 0 0, .int .i64 0] 46)) (w.heap.size) [.int .i64 b.pc, .int .i64 b.len, (.slice Ab1 b.ops.length cb1), .int .i64 b.fin, .int .i64 b.x, .int .i64 b.y, .int .i64 b.k] := (by have := (Bx.alloc (Bx.alloc (Bx.new w #[.int .i64 b.pc, .int .i64 b.len, (.slice Ab1 b.ops.length cb1), .int .i64 b.fin, .int .i64 b.x, .int .i64 b.y, .int .i64 b.k] 25) (by simp) #[(.slice Am1 m.regs.length cm1), .int .i64 m.pc, (.slice Am2 m.mem.length cm2), .int .i64 m.save, .bool m.lets, .bool m.waits, .int .i64 m.halt, (.slice Am3 m.ins.length cm3), (.slice Am4 m.outs.length cm4), .int .i64 m.count] 46) (by first | (simp; done) | (simp; omega)) #[.slice none 0 0, .int .i64 0, .slice none 0 0, .int .i64 0, .bool false, .bool false, .int .i64 0, .slice none 0 0, .slice none 0 0, .int .i64 0] 46); simpa using this)
    have hFb_0 : ∀ oo, ((((w.alloc (Obj.cells #[.int .i64 b.pc, .int .i64 b.len, (.slice Ab1 b.ops.length cb1), .int .i64 b.fin, .int .i64 b.x, .int .i64 b.y, .int .i64 b.k] 25)).alloc (Obj.cells #[(.slice Am1 m.regs.length cm1), .int .i64 m.pc, (.slice Am2 m.mem.length cm2), .int .i64 m.save, .bool m.lets, .bool m.waits, .int .i64 m.halt, (.slice Am3 m.ins.length cm3), (.slice Am4 m.outs.length cm4), .int .i64 m.count] 46)).alloc (Obj.cells #[.slice none 0 0, .int .i64 0, .slice none 0 0, .int .i64 0, .bool false, .bool false, .int .i64 0, .slice none 0 0, .slice none 0 0, .int .i64 0] 46))).frozen? ⟨w.heap.size, oo, none⟩ = false := (fz_alloc (fz_alloc (fz_new w #[.int .i64 b.pc, .int .i64 b.len, (.slice Ab1 b.ops.length cb1), .int .i64 b.fin, .int .i64 b.x, .int .i64 b.y, .int .i64 b.k] 25 (by first | rfl | (simp; done))) (by first | (simp; done) | (simp; omega)) (Obj.cells #[(.slice Am1 m.regs.length cm1), .int .i64 m.pc, (.slice Am2 m.mem.length cm2), .int .i64 m.save, .bool m.lets, .bool m.waits, .int .i64 m.halt, (.slice Am3 m.ins.length cm3), (.slice Am4 m.outs.length cm4), .int .i64 m.count] 46)) (by first | (simp; done) | (simp; omega)) (Obj.cells #[.slice none 0 0, .int .i64 0, .slice none 0 0, .int .i64 0, .bool false, .bool false, .int .i64 0, .slice none 0 0, .slice none 0 0, .int .i64 0] 46))
    have hBm_0 : Bx (((w.alloc (Obj.cells #[.int .i64 b.pc, .int .i64 b.len, (.slice Ab1 b.ops.length cb1), .int .i64 b.fin, .int .i64 b.x, .int .i64 b.y, .int .i64 b.k] 25)).alloc (Obj.cells #[(.slice Am1 m.regs.length cm1), .int .i64 m.pc, (.slice Am2 m.mem.length cm2), .int .i64 m.save, .bool m.lets, .bool m.waits, .int .i64 m.halt, (.slice Am3 m.ins.length cm3), (.slice Am4 m.outs.length cm4), .int .i64 m.count] 46)).alloc (Obj.cells #[.slice none 0 0, .int .i64 0, .slice none 0 0, .int .i64 0, .bool false, .bool false, .int .i64 0, .slice none 0 0, .slice none 0 0, .int .i64 0] 46)) (w.heap.size + 1) [(.slice Am1 m.regs.length cm1), .int .i64 m.pc, (.slice Am2 m.mem.length cm2), .int .i64 m.save, .bool m.lets, .bool m.waits, .int .i64 m.halt, (.slice Am3 m.ins.length cm3), (.slice Am4 m.outs.length cm4), .int .i64 m.count] := (by have := (Bx.alloc (Bx.new (w.alloc (Obj.cells #[.int .i64 b.pc, .int .i64 b.len, (.slice Ab1 b.ops.length cb1), .int .i64 b.fin, .int .i64 b.x, .int .i64 b.y, .int .i64 b.k] 25)) #[(.slice Am1 m.regs.length cm1), .int .i64 m.pc, (.slice Am2 m.mem.length cm2), .int .i64 m.save, .bool m.lets, .bool m.waits, .int .i64 m.halt, (.slice Am3 m.ins.length cm3), (.slice Am4 m.outs.length cm4), .int .i64 m.count] 46) (by simp) #[.slice none 0 0, .int .i64 0, .slice none 0 0, .int .i64 0, .bool false, .bool false, .int .i64 0, .slice none 0 0, .slice none 0 0, .int .i64 0] 46); simpa using this)
    have hFm_0 : ∀ oo, ((((w.alloc (Obj.cells #[.int .i64 b.pc, .int .i64 b.len, (.slice Ab1 b.ops.length cb1), .int .i64 b.fin, .int .i64 b.x, .int .i64 b.y, .int .i64 b.k] 25)).alloc (Obj.cells #[(.slice Am1 m.regs.length cm1), .int .i64 m.pc, (.slice Am2 m.mem.length cm2), .int .i64 m.save, .bool m.lets, .bool m.waits, .int .i64 m.halt, (.slice Am3 m.ins.length cm3), (.slice Am4 m.outs.length cm4), .int .i64 m.count] 46)).alloc (Obj.cells #[.slice none 0 0, .int .i64 0, .slice none 0 0, .int .i64 0, .bool false, .bool false, .int .i64 0, .slice none 0 0, .slice none 0 0, .int .i64 0] 46))).frozen? ⟨w.heap.size + 1, oo, none⟩ = false := (fz_alloc (fz_new (w.alloc (Obj.cells #[.int .i64 b.pc, .int .i64 b.len, (.slice Ab1 b.ops.length cb1), .int .i64 b.fin, .int .i64 b.x, .int .i64 b.y, .int .i64 b.k] 25)) #[(.slice Am1 m.regs.length cm1), .int .i64 m.pc, (.slice Am2 m.mem.length cm2), .int .i64 m.save, .bool m.lets, .bool m.waits, .int .i64 m.halt, (.slice Am3 m.ins.length cm3), (.slice Am4 m.outs.length cm4), .int .i64 m.count] 46 (by first | rfl | (simp; done))) (by first | (simp; done) | (simp; omega)) (Obj.cells #[.slice none 0 0, .int .i64 0, .slice none 0 0, .int .i64 0, .bool false, .bool false, .int .i64 0, .slice none 0 0, .slice none 0 0, .int .i64 0] 46))
    have hBres_0 : Bx (((w.alloc (Obj.cells #[.int .i64 b.pc, .int .i64 b.len, (.slice Ab1 b.ops.length cb1), .int .i64 b.fin, .int .i64 b.x, .int .i64 b.y, .int .i64 b.k] 25)).alloc (Obj.cells #[(.slice Am1 m.regs.length cm1), .int .i64 m.pc, (.slice Am2 m.mem.length cm2), .int .i64 m.save, .bool m.lets, .bool m.waits, .int .i64 m.halt, (.slice Am3 m.ins.length cm3), (.slice Am4 m.outs.length cm4), .int .i64 m.count] 46)).alloc (Obj.cells #[.slice none 0 0, .int .i64 0, .slice none 0 0, .int .i64 0, .bool false, .bool false, .int .i64 0, .slice none 0 0, .slice none 0 0, .int .i64 0] 46)) (w.heap.size + 1 + 1) [.slice none 0 0, .int .i64 0, .slice none 0 0, .int .i64 0, .bool false, .bool false, .int .i64 0, .slice none 0 0, .slice none 0 0, .int .i64 0] := (by have := (Bx.new ((w.alloc (Obj.cells #[.int .i64 b.pc, .int .i64 b.len, (.slice Ab1 b.ops.length cb1), .int .i64 b.fin, .int .i64 b.x, .int .i64 b.y, .int .i64 b.k] 25)).alloc (Obj.cells #[(.slice Am1 m.regs.length cm1), .int .i64 m.pc, (.slice Am2 m.mem.length cm2), .int .i64 m.save, .bool m.lets, .bool m.waits, .int .i64 m.halt, (.slice Am3 m.ins.length cm3), (.slice Am4 m.outs.length cm4), .int .i64 m.count] 46)) #[.slice none 0 0, .int .i64 0, .slice none 0 0, .int .i64 0, .bool false, .bool false, .int .i64 0, .slice none 0 0, .slice none 0 0, .int .i64 0] 46); simpa using this)
    have hFres_0 : ∀ oo, ((((w.alloc (Obj.cells #[.int .i64 b.pc, .int .i64 b.len, (.slice Ab1 b.ops.length cb1), .int .i64 b.fin, .int .i64 b.x, .int .i64 b.y, .int .i64 b.k] 25)).alloc (Obj.cells #[(.slice Am1 m.regs.length cm1), .int .i64 m.pc, (.slice Am2 m.mem.length cm2), .int .i64 m.save, .bool m.lets, .bool m.waits, .int .i64 m.halt, (.slice Am3 m.ins.length cm3), (.slice Am4 m.outs.length cm4), .int .i64 m.count] 46)).alloc (Obj.cells #[.slice none 0 0, .int .i64 0, .slice none 0 0, .int .i64 0, .bool false, .bool false, .int .i64 0, .slice none 0 0, .slice none 0 0, .int .i64 0] 46))).frozen? ⟨w.heap.size + 1 + 1, oo, none⟩ = false := (fz_new ((w.alloc (Obj.cells #[.int .i64 b.pc, .int .i64 b.len, (.slice Ab1 b.ops.length cb1), .int .i64 b.fin, .int .i64 b.x, .int .i64 b.y, .int .i64 b.k] 25)).alloc (Obj.cells #[(.slice Am1 m.regs.length cm1), .int .i64 m.pc, (.slice Am2 m.mem.length cm2), .int .i64 m.save, .bool m.lets, .bool m.waits, .int .i64 m.halt, (.slice Am3 m.ins.length cm3), (.slice Am4 m.outs.length cm4), .int .i64 m.count] 46)) #[.slice none 0 0, .int .i64 0, .slice none 0 0, .int .i64 0, .bool false, .bool false, .int .i64 0, .slice none 0 0, .slice none 0 0, .int .i64 0] 46 (by first | rfl | (simp; done)))
    generalize (((w.alloc (Obj.cells #[.int .i64 b.pc, .int .i64 b.len, (.slice Ab1 b.ops.length cb1), .int .i64 b.fin, .int .i64 b.x, .int .i64 b.y, .int .i64 b.k] 25)).alloc (Obj.cells #[(.slice Am1 m.regs.length cm1), .int .i64 m.pc, (.slice Am2 m.mem.length cm2), .int .i64 m.save, .bool m.lets, .bool m.waits, .int .i64 m.halt, (.slice Am3 m.ins.length cm3), (.slice Am4 m.outs.length cm4), .int .i64 m.count] 46)).alloc (Obj.cells #[.slice none 0 0, .int .i64 0, .slice none 0 0, .int .i64 0, .bool false, .bool false, .int .i64 0, .slice none 0 0, .slice none 0 0, .int .i64 0] 46)) = w0 at *
    have yb : w.heap.size < w0.heap.size := by omega
    have xb0 := hBb_0 0 _ rfl
    have xb1 := hBb_0 1 _ rfl
    have xb2 := hBb_0 2 _ rfl
    have xb3 := hBb_0 3 _ rfl
    have xb4 := hBb_0 4 _ rfl
    have xb5 := hBb_0 5 _ rfl
    have xb6 := hBb_0 6 _ rfl
    have fb := hFb_0
    have ym : w.heap.size + 1 < w0.heap.size := by omega
    have xm0 := hBm_0 0 _ rfl
    have xm1 := hBm_0 1 _ rfl
    have xm2 := hBm_0 2 _ rfl
    have xm3 := hBm_0 3 _ rfl
    have xm4 := hBm_0 4 _ rfl
    have xm5 := hBm_0 5 _ rfl
    have xm6 := hBm_0 6 _ rfl
    have xm7 := hBm_0 7 _ rfl
    have xm8 := hBm_0 8 _ rfl
    have xm9 := hBm_0 9 _ rfl
    have fm := hFm_0
    have yres : w.heap.size + 1 + 1 < w0.heap.size := by omega
    have xres0 := hBres_0 0 _ rfl
    have xres1 := hBres_0 1 _ rfl
    have xres2 := hBres_0 2 _ rfl
    have xres3 := hBres_0 3 _ rfl
    have xres4 := hBres_0 4 _ rfl
    have xres5 := hBres_0 5 _ rfl
    have xres6 := hBres_0 6 _ rfl
    have xres7 := hBres_0 7 _ rfl
    have xres8 := hBres_0 8 _ rfl
    have xres9 := hBres_0 9 _ rfl
    have fres := hFres_0
    go_wp2_with fail
    refine (implIrOk_any b _ _ (hb1.ext he0) hbo).mono ?_
    rintro e w1 ⟨rfl, hy⟩
    simp only [q0]
    clear xb0 xb1 xb2 xb3 xb4 xb5 xb6 yb
    clear fb
    clear xm0 xm1 xm2 xm3 xm4 xm5 xm6 xm7 xm8 xm9 ym
    clear fm
    clear xres0 xres1 xres2 xres3 xres4 xres5 xres6 xres7 xres8 xres9 yres
    clear fres
    have hs1 := hy.size
    try simp at hs1
    have he1 : Ext w w1 := Ext.trans (Ext.hold he0) hy
    have hBb_1 : Bx w1 (w.heap.size) [.int .i64 b.pc, .int .i64 b.len, (.slice Ab1 b.ops.length cb1), .int .i64 b.fin, .int .i64 b.x, .int .i64 b.y, .int .i64 b.k] := hy.bx (Bx.hold hBb_0) (by first | omega | (simp; done) | (simp; omega))
    have hFb_1 : ∀ oo, w1.frozen? ⟨w.heap.size, oo, none⟩ = false := fun oo => (hy.frozen (by first | omega | (simp; done) | (simp; omega))).trans ((fz_hold hFb_0) oo)
    have hBm_1 : Bx w1 (w.heap.size + 1) [(.slice Am1 m.regs.length cm1), .int .i64 m.pc, (.slice Am2 m.mem.length cm2), .int .i64 m.save, .bool m.lets, .bool m.waits, .int .i64 m.halt, (.slice Am3 m.ins.length cm3), (.slice Am4 m.outs.length cm4), .int .i64 m.count] := hy.bx (Bx.hold hBm_0) (by first | omega | (simp; done) | (simp; omega))
    have hFm_1 : ∀ oo, w1.frozen? ⟨w.heap.size + 1, oo, none⟩ = false := fun oo => (hy.frozen (by first | omega | (simp; done) | (simp; omega))).trans ((fz_hold hFm_0) oo)
    have hBres_1 : Bx w1 (w.heap.size + 1 + 1) [.slice none 0 0, .int .i64 0, .slice none 0 0, .int .i64 0, .bool false, .bool false, .int .i64 0, .slice none 0 0, .slice none 0 0, .int .i64 0] := hy.bx (Bx.hold hBres_0) (by first | omega | (simp; done) | (simp; omega))
    have hFres_1 : ∀ oo, w1.frozen? ⟨w.heap.size + 1 + 1, oo, none⟩ = false := fun oo => (hy.frozen (by first | omega | (simp; done) | (simp; omega))).trans ((fz_hold hFres_0) oo)
    try clear hBb_0 hFb_0 hBm_0 hFm_0 hBres_0 hFres_0
    clear hy
    have yres : w.heap.size + 1 + 1 < w1.heap.size := by omega
    have xres0 := hBres_1 0 _ rfl
    have xres1 := hBres_1 1 _ rfl
    have xres2 := hBres_1 2 _ rfl
    have xres3 := hBres_1 3 _ rfl
    have xres4 := hBres_1 4 _ rfl
    have xres5 := hBres_1 5 _ rfl
    have xres6 := hBres_1 6 _ rfl
    have xres7 := hBres_1 7 _ rfl
    have xres8 := hBres_1 8 _ rfl
    have xres9 := hBres_1 9 _ rfl
    have fres := hFres_1
    go_wp2
    refine bodyPost_ret (v := .tuple #[.agg #[.slice none 0 0, .int .i64 0, .slice none 0 0, .int .i64 0, .bool false, .bool false, .int .i64 0, .slice none 0 0, .slice none 0 0, .int .i64 0], .bool false]) (by simp [results, Try.results26, go_sem, xres0, xres1, xres2, xres3, xres4, xres5, xres6, xres7, xres8, xres9]) rfl ?_
    unfold IrPost
    rw [HV.out, HW.out]
    exact ⟨.slice none 0 0, .slice none 0 0, .slice none 0 0, .slice none 0 0, [], [], [], [], rfl, OwnSl.nil _, OwnSl.nil _, OwnSl.nil _, OwnSl.nil _, Fr.nil _ _, Ext.hold he1⟩
  cases q1 : mchOkB m
  · 
    have HV := hide (show irRun b m = emptyMach by unfold irRun; rw [q0, q1]; rfl)
    have HW := hide (show irRunOk b m = false by unfold irRunOk; rw [q0, q1]; rfl)
    go_enter Try.func26, Try.ntmps26
    go_upto_region 1 with fail
    have he0 : Ext w (((w.alloc (Obj.cells #[.int .i64 b.pc, .int .i64 b.len, (.slice Ab1 b.ops.length cb1), .int .i64 b.fin, .int .i64 b.x, .int .i64 b.y, .int .i64 b.k] 25)).alloc (Obj.cells #[(.slice Am1 m.regs.length cm1), .int .i64 m.pc, (.slice Am2 m.mem.length cm2), .int .i64 m.save, .bool m.lets, .bool m.waits, .int .i64 m.halt, (.slice Am3 m.ins.length cm3), (.slice Am4 m.outs.length cm4), .int .i64 m.count] 46)).alloc (Obj.cells #[.slice none 0 0, .int .i64 0, .slice none 0 0, .int .i64 0, .bool false, .bool false, .int .i64 0, .slice none 0 0, .slice none 0 0, .int .i64 0] 46)) := (Ext.auto)
    have hs0 : w.heap.size + 3 ≤ ((((w.alloc (Obj.cells #[.int .i64 b.pc, .int .i64 b.len, (.slice Ab1 b.ops.length cb1), .int .i64 b.fin, .int .i64 b.x, .int .i64 b.y, .int .i64 b.k] 25)).alloc (Obj.cells #[(.slice Am1 m.regs.length cm1), .int .i64 m.pc, (.slice Am2 m.mem.length cm2), .int .i64 m.save, .bool m.lets, .bool m.waits, .int .i64 m.halt, (.slice Am3 m.ins.length cm3), (.slice Am4 m.outs.length cm4), .int .i64 m.count] 46)).alloc (Obj.cells #[.slice none 0 0, .int .i64 0, .slice none 0 0, .int .i64 0, .bool false, .bool false, .int .i64 0, .slice none 0 0, .slice none 0 0, .int .i64 0] 46))).heap.size := by simp
    have hq0 := hide (show ((((w.alloc (Obj.cells #[.int .i64 b.pc, .int .i64 b.len, (.slice Ab1 b.ops.length cb1), .int .i64 b.fin, .int .i64 b.x, .int .i64 b.y, .int .i64 b.k] 25)).alloc (Obj.cells #[(.slice Am1 m.regs.length cm1), .int .i64 m.pc, (.slice Am2 m.mem.length cm2), .int .i64 m.save, .bool m.lets, .bool m.waits, .int .i64 m.halt, (.slice Am3 m.ins.length cm3), (.slice Am4 m.outs.length cm4), .int .i64 m.count] 46)).alloc (Obj.cells #[.slice none 0 0, .int .i64 0, .slice none 0 0, .int .i64 0, .bool false, .bool false, .int .i64 0, .slice none 0 0, .slice none 0 0, .int .i64 0] 46))).heap.size = w.heap.size + 3 by simp)
    have hBb_0 : Bx (((w.alloc (Obj.cells #[.int .i64 b.pc, .int .i64 b.len, (.slice Ab1 b.ops.length cb1), .int .i64 b.fin, .int .i64 b.x, .int .i64 b.y, .int .i64 b.k] 25)).alloc (Obj.cells #[(.slice Am1 m.regs.length cm1), .int .i64 m.pc, (.slice Am2 m.mem.length cm2), .int .i64 m.save, .bool m.lets, .bool m.waits, .int .i64 m.halt, (.slice Am3 m.ins.length cm3), (.slice Am4 m.outs.length cm4), .int .i64 m.count] 46)).alloc (Obj.cells #[.slice none 0 0, .int .i64 0, .slice none 0 0, .int .i64 0, .bool false, .bool false, .int .i64 0, .slice none 0 0, .slice none 0 0, .int .i64 0] 46)) (w.heap.size) [.int .i64 b.pc, .int .i64 b.len, (.slice Ab1 b.ops.length cb1), .int .i64 b.fin, .int .i64 b.x, .int .i64 b.y, .int .i64 b.k] := (by have := (Bx.alloc (Bx.alloc (Bx.new w #[.int .i64 b.pc, .int .i64 b.len, (.slice Ab1 b.ops.length cb1), .int .i64 b.fin, .int .i64 b.x, .int .i64 b.y, .int .i64 b.k] 25) (by simp) #[(.slice Am1 m.regs.length cm1), .int .i64 m.pc, (.slice Am2 m.mem.length cm2), .int .i64 m.save, .bool m.lets, .bool m.waits, .int .i64 m.halt, (.slice Am3 m.ins.length cm3), (.slice Am4 m.outs.length cm4), .int .i64 m.count] 46) (by first | (simp; done) | (simp; omega)) #[.slice none 0 0, .int .i64 0, .slice none 0 0, .int .i64 0, .bool false, .bool false, .int .i64 0, .slice none 0 0, .slice none 0 0, .int .i64 0] 46); simpa using this)
    have hFb_0 : ∀ oo, ((((w.alloc (Obj.cells #[.int .i64 b.pc, .int .i64 b.len, (.slice Ab1 b.ops.length cb1), .int .i64 b.fin, .int .i64 b.x, .int .i64 b.y, .int .i64 b.k] 25)).alloc (Obj.cells #[(.slice Am1 m.regs.length cm1), .int .i64 m.pc, (.slice Am2 m.mem.length cm2), .int .i64 m.save, .bool m.lets, .bool m.waits, .int .i64 m.halt, (.slice Am3 m.ins.length cm3), (.slice Am4 m.outs.length cm4), .int .i64 m.count] 46)).alloc (Obj.cells #[.slice none 0 0, .int .i64 0, .slice none 0 0, .int .i64 0, .bool false, .bool false, .int .i64 0, .slice none 0 0, .slice none 0 0, .int .i64 0] 46))).frozen? ⟨w.heap.size, oo, none⟩ = false := (fz_alloc (fz_alloc (fz_new w #[.int .i64 b.pc, .int .i64 b.len, (.slice Ab1 b.ops.length cb1), .int .i64 b.fin, .int .i64 b.x, .int .i64 b.y, .int .i64 b.k] 25 (by first | rfl | (simp; done))) (by first | (simp; done) | (simp; omega)) (Obj.cells #[(.slice Am1 m.regs.length cm1), .int .i64 m.pc, (.slice Am2 m.mem.length cm2), .int .i64 m.save, .bool m.lets, .bool m.waits, .int .i64 m.halt, (.slice Am3 m.ins.length cm3), (.slice Am4 m.outs.length cm4), .int .i64 m.count] 46)) (by first | (simp; done) | (simp; omega)) (Obj.cells #[.slice none 0 0, .int .i64 0, .slice none 0 0, .int .i64 0, .bool false, .bool false, .int .i64 0, .slice none 0 0, .slice none 0 0, .int .i64 0] 46))
    have hBm_0 : Bx (((w.alloc (Obj.cells #[.int .i64 b.pc, .int .i64 b.len, (.slice Ab1 b.ops.length cb1), .int .i64 b.fin, .int .i64 b.x, .int .i64 b.y, .int .i64 b.k] 25)).alloc (Obj.cells #[(.slice Am1 m.regs.length cm1), .int .i64 m.pc, (.slice Am2 m.mem.length cm2), .int .i64 m.save, .bool m.lets, .bool m.waits, .int .i64 m.halt, (.slice Am3 m.ins.length cm3), (.slice Am4 m.outs.length cm4), .int .i64 m.count] 46)).alloc (Obj.cells #[.slice none 0 0, .int .i64 0, .slice none 0 0, .int .i64 0, .bool false, .bool false, .int .i64 0, .slice none 0 0, .slice none 0 0, .int .i64 0] 46)) (w.heap.size + 1) [(.slice Am1 m.regs.length cm1), .int .i64 m.pc, (.slice Am2 m.mem.length cm2), .int .i64 m.save, .bool m.lets, .bool m.waits, .int .i64 m.halt, (.slice Am3 m.ins.length cm3), (.slice Am4 m.outs.length cm4), .int .i64 m.count] := (by have := (Bx.alloc (Bx.new (w.alloc (Obj.cells #[.int .i64 b.pc, .int .i64 b.len, (.slice Ab1 b.ops.length cb1), .int .i64 b.fin, .int .i64 b.x, .int .i64 b.y, .int .i64 b.k] 25)) #[(.slice Am1 m.regs.length cm1), .int .i64 m.pc, (.slice Am2 m.mem.length cm2), .int .i64 m.save, .bool m.lets, .bool m.waits, .int .i64 m.halt, (.slice Am3 m.ins.length cm3), (.slice Am4 m.outs.length cm4), .int .i64 m.count] 46) (by simp) #[.slice none 0 0, .int .i64 0, .slice none 0 0, .int .i64 0, .bool false, .bool false, .int .i64 0, .slice none 0 0, .slice none 0 0, .int .i64 0] 46); simpa using this)
    have hFm_0 : ∀ oo, ((((w.alloc (Obj.cells #[.int .i64 b.pc, .int .i64 b.len, (.slice Ab1 b.ops.length cb1), .int .i64 b.fin, .int .i64 b.x, .int .i64 b.y, .int .i64 b.k] 25)).alloc (Obj.cells #[(.slice Am1 m.regs.length cm1), .int .i64 m.pc, (.slice Am2 m.mem.length cm2), .int .i64 m.save, .bool m.lets, .bool m.waits, .int .i64 m.halt, (.slice Am3 m.ins.length cm3), (.slice Am4 m.outs.length cm4), .int .i64 m.count] 46)).alloc (Obj.cells #[.slice none 0 0, .int .i64 0, .slice none 0 0, .int .i64 0, .bool false, .bool false, .int .i64 0, .slice none 0 0, .slice none 0 0, .int .i64 0] 46))).frozen? ⟨w.heap.size + 1, oo, none⟩ = false := (fz_alloc (fz_new (w.alloc (Obj.cells #[.int .i64 b.pc, .int .i64 b.len, (.slice Ab1 b.ops.length cb1), .int .i64 b.fin, .int .i64 b.x, .int .i64 b.y, .int .i64 b.k] 25)) #[(.slice Am1 m.regs.length cm1), .int .i64 m.pc, (.slice Am2 m.mem.length cm2), .int .i64 m.save, .bool m.lets, .bool m.waits, .int .i64 m.halt, (.slice Am3 m.ins.length cm3), (.slice Am4 m.outs.length cm4), .int .i64 m.count] 46 (by first | rfl | (simp; done))) (by first | (simp; done) | (simp; omega)) (Obj.cells #[.slice none 0 0, .int .i64 0, .slice none 0 0, .int .i64 0, .bool false, .bool false, .int .i64 0, .slice none 0 0, .slice none 0 0, .int .i64 0] 46))
    have hBres_0 : Bx (((w.alloc (Obj.cells #[.int .i64 b.pc, .int .i64 b.len, (.slice Ab1 b.ops.length cb1), .int .i64 b.fin, .int .i64 b.x, .int .i64 b.y, .int .i64 b.k] 25)).alloc (Obj.cells #[(.slice Am1 m.regs.length cm1), .int .i64 m.pc, (.slice Am2 m.mem.length cm2), .int .i64 m.save, .bool m.lets, .bool m.waits, .int .i64 m.halt, (.slice Am3 m.ins.length cm3), (.slice Am4 m.outs.length cm4), .int .i64 m.count] 46)).alloc (Obj.cells #[.slice none 0 0, .int .i64 0, .slice none 0 0, .int .i64 0, .bool false, .bool false, .int .i64 0, .slice none 0 0, .slice none 0 0, .int .i64 0] 46)) (w.heap.size + 1 + 1) [.slice none 0 0, .int .i64 0, .slice none 0 0, .int .i64 0, .bool false, .bool false, .int .i64 0, .slice none 0 0, .slice none 0 0, .int .i64 0] := (by have := (Bx.new ((w.alloc (Obj.cells #[.int .i64 b.pc, .int .i64 b.len, (.slice Ab1 b.ops.length cb1), .int .i64 b.fin, .int .i64 b.x, .int .i64 b.y, .int .i64 b.k] 25)).alloc (Obj.cells #[(.slice Am1 m.regs.length cm1), .int .i64 m.pc, (.slice Am2 m.mem.length cm2), .int .i64 m.save, .bool m.lets, .bool m.waits, .int .i64 m.halt, (.slice Am3 m.ins.length cm3), (.slice Am4 m.outs.length cm4), .int .i64 m.count] 46)) #[.slice none 0 0, .int .i64 0, .slice none 0 0, .int .i64 0, .bool false, .bool false, .int .i64 0, .slice none 0 0, .slice none 0 0, .int .i64 0] 46); simpa using this)
    have hFres_0 : ∀ oo, ((((w.alloc (Obj.cells #[.int .i64 b.pc, .int .i64 b.len, (.slice Ab1 b.ops.length cb1), .int .i64 b.fin, .int .i64 b.x, .int .i64 b.y, .int .i64 b.k] 25)).alloc (Obj.cells #[(.slice Am1 m.regs.length cm1), .int .i64 m.pc, (.slice Am2 m.mem.length cm2), .int .i64 m.save, .bool m.lets, .bool m.waits, .int .i64 m.halt, (.slice Am3 m.ins.length cm3), (.slice Am4 m.outs.length cm4), .int .i64 m.count] 46)).alloc (Obj.cells #[.slice none 0 0, .int .i64 0, .slice none 0 0, .int .i64 0, .bool false, .bool false, .int .i64 0, .slice none 0 0, .slice none 0 0, .int .i64 0] 46))).frozen? ⟨w.heap.size + 1 + 1, oo, none⟩ = false := (fz_new ((w.alloc (Obj.cells #[.int .i64 b.pc, .int .i64 b.len, (.slice Ab1 b.ops.length cb1), .int .i64 b.fin, .int .i64 b.x, .int .i64 b.y, .int .i64 b.k] 25)).alloc (Obj.cells #[(.slice Am1 m.regs.length cm1), .int .i64 m.pc, (.slice Am2 m.mem.length cm2), .int .i64 m.save, .bool m.lets, .bool m.waits, .int .i64 m.halt, (.slice Am3 m.ins.length cm3), (.slice Am4 m.outs.length cm4), .int .i64 m.count] 46)) #[.slice none 0 0, .int .i64 0, .slice none 0 0, .int .i64 0, .bool false, .bool false, .int .i64 0, .slice none 0 0, .slice none 0 0, .int .i64 0] 46 (by first | rfl | (simp; done)))
    generalize (((w.alloc (Obj.cells #[.int .i64 b.pc, .int .i64 b.len, (.slice Ab1 b.ops.length cb1), .int .i64 b.fin, .int .i64 b.x, .int .i64 b.y, .int .i64 b.k] 25)).alloc (Obj.cells #[(.slice Am1 m.regs.length cm1), .int .i64 m.pc, (.slice Am2 m.mem.length cm2), .int .i64 m.save, .bool m.lets, .bool m.waits, .int .i64 m.halt, (.slice Am3 m.ins.length cm3), (.slice Am4 m.outs.length cm4), .int .i64 m.count] 46)).alloc (Obj.cells #[.slice none 0 0, .int .i64 0, .slice none 0 0, .int .i64 0, .bool false, .bool false, .int .i64 0, .slice none 0 0, .slice none 0 0, .int .i64 0] 46)) = w0 at *
    have yb : w.heap.size < w0.heap.size := by omega
    have xb0 := hBb_0 0 _ rfl
    have xb1 := hBb_0 1 _ rfl
    have xb2 := hBb_0 2 _ rfl
    have xb3 := hBb_0 3 _ rfl
    have xb4 := hBb_0 4 _ rfl
    have xb5 := hBb_0 5 _ rfl
    have xb6 := hBb_0 6 _ rfl
    have fb := hFb_0
    have ym : w.heap.size + 1 < w0.heap.size := by omega
    have xm0 := hBm_0 0 _ rfl
    have xm1 := hBm_0 1 _ rfl
    have xm2 := hBm_0 2 _ rfl
    have xm3 := hBm_0 3 _ rfl
    have xm4 := hBm_0 4 _ rfl
    have xm5 := hBm_0 5 _ rfl
    have xm6 := hBm_0 6 _ rfl
    have xm7 := hBm_0 7 _ rfl
    have xm8 := hBm_0 8 _ rfl
    have xm9 := hBm_0 9 _ rfl
    have fm := hFm_0
    have yres : w.heap.size + 1 + 1 < w0.heap.size := by omega
    have xres0 := hBres_0 0 _ rfl
    have xres1 := hBres_0 1 _ rfl
    have xres2 := hBres_0 2 _ rfl
    have xres3 := hBres_0 3 _ rfl
    have xres4 := hBres_0 4 _ rfl
    have xres5 := hBres_0 5 _ rfl
    have xres6 := hBres_0 6 _ rfl
    have xres7 := hBres_0 7 _ rfl
    have xres8 := hBres_0 8 _ rfl
    have xres9 := hBres_0 9 _ rfl
    have fres := hFres_0
    go_wp2_with fail
    refine (implIrOk_any b _ _ (hb1.ext he0) hbo).mono ?_
    rintro e w1 ⟨rfl, hy⟩
    simp only [q0]
    clear xb0 xb1 xb2 xb3 xb4 xb5 xb6 yb
    clear fb
    clear xm0 xm1 xm2 xm3 xm4 xm5 xm6 xm7 xm8 xm9 ym
    clear fm
    clear xres0 xres1 xres2 xres3 xres4 xres5 xres6 xres7 xres8 xres9 yres
    clear fres
    have hs1 := hy.size
    try simp at hs1
    have he1 : Ext w w1 := Ext.trans (Ext.hold he0) hy
    have hBb_1 : Bx w1 (w.heap.size) [.int .i64 b.pc, .int .i64 b.len, (.slice Ab1 b.ops.length cb1), .int .i64 b.fin, .int .i64 b.x, .int .i64 b.y, .int .i64 b.k] := hy.bx (Bx.hold hBb_0) (by first | omega | (simp; done) | (simp; omega))
    have hFb_1 : ∀ oo, w1.frozen? ⟨w.heap.size, oo, none⟩ = false := fun oo => (hy.frozen (by first | omega | (simp; done) | (simp; omega))).trans ((fz_hold hFb_0) oo)
    have hBm_1 : Bx w1 (w.heap.size + 1) [(.slice Am1 m.regs.length cm1), .int .i64 m.pc, (.slice Am2 m.mem.length cm2), .int .i64 m.save, .bool m.lets, .bool m.waits, .int .i64 m.halt, (.slice Am3 m.ins.length cm3), (.slice Am4 m.outs.length cm4), .int .i64 m.count] := hy.bx (Bx.hold hBm_0) (by first | omega | (simp; done) | (simp; omega))
    have hFm_1 : ∀ oo, w1.frozen? ⟨w.heap.size + 1, oo, none⟩ = false := fun oo => (hy.frozen (by first | omega | (simp; done) | (simp; omega))).trans ((fz_hold hFm_0) oo)
    have hBres_1 : Bx w1 (w.heap.size + 1 + 1) [.slice none 0 0, .int .i64 0, .slice none 0 0, .int .i64 0, .bool false, .bool false, .int .i64 0, .slice none 0 0, .slice none 0 0, .int .i64 0] := hy.bx (Bx.hold hBres_0) (by first | omega | (simp; done) | (simp; omega))
    have hFres_1 : ∀ oo, w1.frozen? ⟨w.heap.size + 1 + 1, oo, none⟩ = false := fun oo => (hy.frozen (by first | omega | (simp; done) | (simp; omega))).trans ((fz_hold hFres_0) oo)
    try clear hBb_0 hFb_0 hBm_0 hFm_0 hBres_0 hFres_0
    clear hy
    have yb : w.heap.size < w1.heap.size := by omega
    have xb0 := hBb_1 0 _ rfl
    have xb1 := hBb_1 1 _ rfl
    have xb2 := hBb_1 2 _ rfl
    have xb3 := hBb_1 3 _ rfl
    have xb4 := hBb_1 4 _ rfl
    have xb5 := hBb_1 5 _ rfl
    have xb6 := hBb_1 6 _ rfl
    have fb := hFb_1
    have ym : w.heap.size + 1 < w1.heap.size := by omega
    have xm0 := hBm_1 0 _ rfl
    have xm1 := hBm_1 1 _ rfl
    have xm2 := hBm_1 2 _ rfl
    have xm3 := hBm_1 3 _ rfl
    have xm4 := hBm_1 4 _ rfl
    have xm5 := hBm_1 5 _ rfl
    have xm6 := hBm_1 6 _ rfl
    have xm7 := hBm_1 7 _ rfl
    have xm8 := hBm_1 8 _ rfl
    have xm9 := hBm_1 9 _ rfl
    have fm := hFm_1
    have yres : w.heap.size + 1 + 1 < w1.heap.size := by omega
    have xres0 := hBres_1 0 _ rfl
    have xres1 := hBres_1 1 _ rfl
    have xres2 := hBres_1 2 _ rfl
    have xres3 := hBres_1 3 _ rfl
    have xres4 := hBres_1 4 _ rfl
    have xres5 := hBres_1 5 _ rfl
    have xres6 := hBres_1 6 _ rfl
    have xres7 := hBres_1 7 _ rfl
    have xres8 := hBres_1 8 _ rfl
    have xres9 := hBres_1 9 _ rfl
    have fres := hFres_1
    go_wp2_with fail
    refine (implMchOk_any m _ _ _ _ _ (hm1.ext he1) (hm2.ext he1) (hm3.ext he1) (hm4.ext he1)).mono ?_
    rintro e w2 ⟨rfl, hy⟩
    simp only [q1]
    clear xb0 xb1 xb2 xb3 xb4 xb5 xb6 yb
    clear fb
    clear xm0 xm1 xm2 xm3 xm4 xm5 xm6 xm7 xm8 xm9 ym
    clear fm
    clear xres0 xres1 xres2 xres3 xres4 xres5 xres6 xres7 xres8 xres9 yres
    clear fres
    have hs2 := hy.size
    try simp at hs2
    have he2 : Ext w w2 := Ext.trans (Ext.hold he1) hy
    have hBb_2 : Bx w2 (w.heap.size) [.int .i64 b.pc, .int .i64 b.len, (.slice Ab1 b.ops.length cb1), .int .i64 b.fin, .int .i64 b.x, .int .i64 b.y, .int .i64 b.k] := hy.bx (Bx.hold hBb_1) (by first | omega | (simp; done) | (simp; omega))
    have hFb_2 : ∀ oo, w2.frozen? ⟨w.heap.size, oo, none⟩ = false := fun oo => (hy.frozen (by first | omega | (simp; done) | (simp; omega))).trans ((fz_hold hFb_1) oo)
    have hBm_2 : Bx w2 (w.heap.size + 1) [(.slice Am1 m.regs.length cm1), .int .i64 m.pc, (.slice Am2 m.mem.length cm2), .int .i64 m.save, .bool m.lets, .bool m.waits, .int .i64 m.halt, (.slice Am3 m.ins.length cm3), (.slice Am4 m.outs.length cm4), .int .i64 m.count] := hy.bx (Bx.hold hBm_1) (by first | omega | (simp; done) | (simp; omega))
    have hFm_2 : ∀ oo, w2.frozen? ⟨w.heap.size + 1, oo, none⟩ = false := fun oo => (hy.frozen (by first | omega | (simp; done) | (simp; omega))).trans ((fz_hold hFm_1) oo)
    have hBres_2 : Bx w2 (w.heap.size + 1 + 1) [.slice none 0 0, .int .i64 0, .slice none 0 0, .int .i64 0, .bool false, .bool false, .int .i64 0, .slice none 0 0, .slice none 0 0, .int .i64 0] := hy.bx (Bx.hold hBres_1) (by first | omega | (simp; done) | (simp; omega))
    have hFres_2 : ∀ oo, w2.frozen? ⟨w.heap.size + 1 + 1, oo, none⟩ = false := fun oo => (hy.frozen (by first | omega | (simp; done) | (simp; omega))).trans ((fz_hold hFres_1) oo)
    try clear hBb_1 hFb_1 hBm_1 hFm_1 hBres_1 hFres_1
    clear hy
    have yres : w.heap.size + 1 + 1 < w2.heap.size := by omega
    have xres0 := hBres_2 0 _ rfl
    have xres1 := hBres_2 1 _ rfl
    have xres2 := hBres_2 2 _ rfl
    have xres3 := hBres_2 3 _ rfl
    have xres4 := hBres_2 4 _ rfl
    have xres5 := hBres_2 5 _ rfl
    have xres6 := hBres_2 6 _ rfl
    have xres7 := hBres_2 7 _ rfl
    have xres8 := hBres_2 8 _ rfl
    have xres9 := hBres_2 9 _ rfl
    have fres := hFres_2
    go_wp2
    refine bodyPost_ret (v := .tuple #[.agg #[.slice none 0 0, .int .i64 0, .slice none 0 0, .int .i64 0, .bool false, .bool false, .int .i64 0, .slice none 0 0, .slice none 0 0, .int .i64 0], .bool false]) (by simp [results, Try.results26, go_sem, xres0, xres1, xres2, xres3, xres4, xres5, xres6, xres7, xres8, xres9]) rfl ?_
    unfold IrPost
    rw [HV.out, HW.out]
    exact ⟨.slice none 0 0, .slice none 0 0, .slice none 0 0, .slice none 0 0, [], [], [], [], rfl, OwnSl.nil _, OwnSl.nil _, OwnSl.nil _, OwnSl.nil _, Fr.nil _ _, Ext.hold he2⟩
  have hk := mOk_iff.1 q1
  have hbk := hide q0
  have hpc := ok_pc q0
  have hle := ok_len q0
  have hbn := ok_n q0
  have H0 := hide q1
  have HV0 := hide (show irRun b m = if irGoes b m then rEnd b (rTo b m b.ops.length) else m by unfold irRun; rw [q0, q1]; rfl)
  have HW0 := hide (show irRunOk b m = irGoes b m by unfold irRunOk; rw [q0, q1]; rfl)
  go_enter Try.func26, Try.ntmps26
  go_upto_region 1 with fail
  have he0 : Ext w (((w.alloc (Obj.cells #[.int .i64 b.pc, .int .i64 b.len, (.slice Ab1 b.ops.length cb1), .int .i64 b.fin, .int .i64 b.x, .int .i64 b.y, .int .i64 b.k] 25)).alloc (Obj.cells #[(.slice Am1 m.regs.length cm1), .int .i64 m.pc, (.slice Am2 m.mem.length cm2), .int .i64 m.save, .bool m.lets, .bool m.waits, .int .i64 m.halt, (.slice Am3 m.ins.length cm3), (.slice Am4 m.outs.length cm4), .int .i64 m.count] 46)).alloc (Obj.cells #[.slice none 0 0, .int .i64 0, .slice none 0 0, .int .i64 0, .bool false, .bool false, .int .i64 0, .slice none 0 0, .slice none 0 0, .int .i64 0] 46)) := (Ext.auto)
  have hs0 : w.heap.size + 3 ≤ ((((w.alloc (Obj.cells #[.int .i64 b.pc, .int .i64 b.len, (.slice Ab1 b.ops.length cb1), .int .i64 b.fin, .int .i64 b.x, .int .i64 b.y, .int .i64 b.k] 25)).alloc (Obj.cells #[(.slice Am1 m.regs.length cm1), .int .i64 m.pc, (.slice Am2 m.mem.length cm2), .int .i64 m.save, .bool m.lets, .bool m.waits, .int .i64 m.halt, (.slice Am3 m.ins.length cm3), (.slice Am4 m.outs.length cm4), .int .i64 m.count] 46)).alloc (Obj.cells #[.slice none 0 0, .int .i64 0, .slice none 0 0, .int .i64 0, .bool false, .bool false, .int .i64 0, .slice none 0 0, .slice none 0 0, .int .i64 0] 46))).heap.size := by simp
  have hq0 := hide (show ((((w.alloc (Obj.cells #[.int .i64 b.pc, .int .i64 b.len, (.slice Ab1 b.ops.length cb1), .int .i64 b.fin, .int .i64 b.x, .int .i64 b.y, .int .i64 b.k] 25)).alloc (Obj.cells #[(.slice Am1 m.regs.length cm1), .int .i64 m.pc, (.slice Am2 m.mem.length cm2), .int .i64 m.save, .bool m.lets, .bool m.waits, .int .i64 m.halt, (.slice Am3 m.ins.length cm3), (.slice Am4 m.outs.length cm4), .int .i64 m.count] 46)).alloc (Obj.cells #[.slice none 0 0, .int .i64 0, .slice none 0 0, .int .i64 0, .bool false, .bool false, .int .i64 0, .slice none 0 0, .slice none 0 0, .int .i64 0] 46))).heap.size = w.heap.size + 3 by simp)
  have hBb_0 : Bx (((w.alloc (Obj.cells #[.int .i64 b.pc, .int .i64 b.len, (.slice Ab1 b.ops.length cb1), .int .i64 b.fin, .int .i64 b.x, .int .i64 b.y, .int .i64 b.k] 25)).alloc (Obj.cells #[(.slice Am1 m.regs.length cm1), .int .i64 m.pc, (.slice Am2 m.mem.length cm2), .int .i64 m.save, .bool m.lets, .bool m.waits, .int .i64 m.halt, (.slice Am3 m.ins.length cm3), (.slice Am4 m.outs.length cm4), .int .i64 m.count] 46)).alloc (Obj.cells #[.slice none 0 0, .int .i64 0, .slice none 0 0, .int .i64 0, .bool false, .bool false, .int .i64 0, .slice none 0 0, .slice none 0 0, .int .i64 0] 46)) (w.heap.size) [.int .i64 b.pc, .int .i64 b.len, (.slice Ab1 b.ops.length cb1), .int .i64 b.fin, .int .i64 b.x, .int .i64 b.y, .int .i64 b.k] := (by have := (Bx.alloc (Bx.alloc (Bx.new w #[.int .i64 b.pc, .int .i64 b.len, (.slice Ab1 b.ops.length cb1), .int .i64 b.fin, .int .i64 b.x, .int .i64 b.y, .int .i64 b.k] 25) (by simp) #[(.slice Am1 m.regs.length cm1), .int .i64 m.pc, (.slice Am2 m.mem.length cm2), .int .i64 m.save, .bool m.lets, .bool m.waits, .int .i64 m.halt, (.slice Am3 m.ins.length cm3), (.slice Am4 m.outs.length cm4), .int .i64 m.count] 46) (by first | (simp; done) | (simp; omega)) #[.slice none 0 0, .int .i64 0, .slice none 0 0, .int .i64 0, .bool false, .bool false, .int .i64 0, .slice none 0 0, .slice none 0 0, .int .i64 0] 46); simpa using this)
  have hFb_0 : ∀ oo, ((((w.alloc (Obj.cells #[.int .i64 b.pc, .int .i64 b.len, (.slice Ab1 b.ops.length cb1), .int .i64 b.fin, .int .i64 b.x, .int .i64 b.y, .int .i64 b.k] 25)).alloc (Obj.cells #[(.slice Am1 m.regs.length cm1), .int .i64 m.pc, (.slice Am2 m.mem.length cm2), .int .i64 m.save, .bool m.lets, .bool m.waits, .int .i64 m.halt, (.slice Am3 m.ins.length cm3), (.slice Am4 m.outs.length cm4), .int .i64 m.count] 46)).alloc (Obj.cells #[.slice none 0 0, .int .i64 0, .slice none 0 0, .int .i64 0, .bool false, .bool false, .int .i64 0, .slice none 0 0, .slice none 0 0, .int .i64 0] 46))).frozen? ⟨w.heap.size, oo, none⟩ = false := (fz_alloc (fz_alloc (fz_new w #[.int .i64 b.pc, .int .i64 b.len, (.slice Ab1 b.ops.length cb1), .int .i64 b.fin, .int .i64 b.x, .int .i64 b.y, .int .i64 b.k] 25 (by first | rfl | (simp; done))) (by first | (simp; done) | (simp; omega)) (Obj.cells #[(.slice Am1 m.regs.length cm1), .int .i64 m.pc, (.slice Am2 m.mem.length cm2), .int .i64 m.save, .bool m.lets, .bool m.waits, .int .i64 m.halt, (.slice Am3 m.ins.length cm3), (.slice Am4 m.outs.length cm4), .int .i64 m.count] 46)) (by first | (simp; done) | (simp; omega)) (Obj.cells #[.slice none 0 0, .int .i64 0, .slice none 0 0, .int .i64 0, .bool false, .bool false, .int .i64 0, .slice none 0 0, .slice none 0 0, .int .i64 0] 46))
  have hBm_0 : Bx (((w.alloc (Obj.cells #[.int .i64 b.pc, .int .i64 b.len, (.slice Ab1 b.ops.length cb1), .int .i64 b.fin, .int .i64 b.x, .int .i64 b.y, .int .i64 b.k] 25)).alloc (Obj.cells #[(.slice Am1 m.regs.length cm1), .int .i64 m.pc, (.slice Am2 m.mem.length cm2), .int .i64 m.save, .bool m.lets, .bool m.waits, .int .i64 m.halt, (.slice Am3 m.ins.length cm3), (.slice Am4 m.outs.length cm4), .int .i64 m.count] 46)).alloc (Obj.cells #[.slice none 0 0, .int .i64 0, .slice none 0 0, .int .i64 0, .bool false, .bool false, .int .i64 0, .slice none 0 0, .slice none 0 0, .int .i64 0] 46)) (w.heap.size + 1) [(.slice Am1 m.regs.length cm1), .int .i64 m.pc, (.slice Am2 m.mem.length cm2), .int .i64 m.save, .bool m.lets, .bool m.waits, .int .i64 m.halt, (.slice Am3 m.ins.length cm3), (.slice Am4 m.outs.length cm4), .int .i64 m.count] := (by have := (Bx.alloc (Bx.new (w.alloc (Obj.cells #[.int .i64 b.pc, .int .i64 b.len, (.slice Ab1 b.ops.length cb1), .int .i64 b.fin, .int .i64 b.x, .int .i64 b.y, .int .i64 b.k] 25)) #[(.slice Am1 m.regs.length cm1), .int .i64 m.pc, (.slice Am2 m.mem.length cm2), .int .i64 m.save, .bool m.lets, .bool m.waits, .int .i64 m.halt, (.slice Am3 m.ins.length cm3), (.slice Am4 m.outs.length cm4), .int .i64 m.count] 46) (by simp) #[.slice none 0 0, .int .i64 0, .slice none 0 0, .int .i64 0, .bool false, .bool false, .int .i64 0, .slice none 0 0, .slice none 0 0, .int .i64 0] 46); simpa using this)
  have hFm_0 : ∀ oo, ((((w.alloc (Obj.cells #[.int .i64 b.pc, .int .i64 b.len, (.slice Ab1 b.ops.length cb1), .int .i64 b.fin, .int .i64 b.x, .int .i64 b.y, .int .i64 b.k] 25)).alloc (Obj.cells #[(.slice Am1 m.regs.length cm1), .int .i64 m.pc, (.slice Am2 m.mem.length cm2), .int .i64 m.save, .bool m.lets, .bool m.waits, .int .i64 m.halt, (.slice Am3 m.ins.length cm3), (.slice Am4 m.outs.length cm4), .int .i64 m.count] 46)).alloc (Obj.cells #[.slice none 0 0, .int .i64 0, .slice none 0 0, .int .i64 0, .bool false, .bool false, .int .i64 0, .slice none 0 0, .slice none 0 0, .int .i64 0] 46))).frozen? ⟨w.heap.size + 1, oo, none⟩ = false := (fz_alloc (fz_new (w.alloc (Obj.cells #[.int .i64 b.pc, .int .i64 b.len, (.slice Ab1 b.ops.length cb1), .int .i64 b.fin, .int .i64 b.x, .int .i64 b.y, .int .i64 b.k] 25)) #[(.slice Am1 m.regs.length cm1), .int .i64 m.pc, (.slice Am2 m.mem.length cm2), .int .i64 m.save, .bool m.lets, .bool m.waits, .int .i64 m.halt, (.slice Am3 m.ins.length cm3), (.slice Am4 m.outs.length cm4), .int .i64 m.count] 46 (by first | rfl | (simp; done))) (by first | (simp; done) | (simp; omega)) (Obj.cells #[.slice none 0 0, .int .i64 0, .slice none 0 0, .int .i64 0, .bool false, .bool false, .int .i64 0, .slice none 0 0, .slice none 0 0, .int .i64 0] 46))
  have hBres_0 : Bx (((w.alloc (Obj.cells #[.int .i64 b.pc, .int .i64 b.len, (.slice Ab1 b.ops.length cb1), .int .i64 b.fin, .int .i64 b.x, .int .i64 b.y, .int .i64 b.k] 25)).alloc (Obj.cells #[(.slice Am1 m.regs.length cm1), .int .i64 m.pc, (.slice Am2 m.mem.length cm2), .int .i64 m.save, .bool m.lets, .bool m.waits, .int .i64 m.halt, (.slice Am3 m.ins.length cm3), (.slice Am4 m.outs.length cm4), .int .i64 m.count] 46)).alloc (Obj.cells #[.slice none 0 0, .int .i64 0, .slice none 0 0, .int .i64 0, .bool false, .bool false, .int .i64 0, .slice none 0 0, .slice none 0 0, .int .i64 0] 46)) (w.heap.size + 1 + 1) [.slice none 0 0, .int .i64 0, .slice none 0 0, .int .i64 0, .bool false, .bool false, .int .i64 0, .slice none 0 0, .slice none 0 0, .int .i64 0] := (by have := (Bx.new ((w.alloc (Obj.cells #[.int .i64 b.pc, .int .i64 b.len, (.slice Ab1 b.ops.length cb1), .int .i64 b.fin, .int .i64 b.x, .int .i64 b.y, .int .i64 b.k] 25)).alloc (Obj.cells #[(.slice Am1 m.regs.length cm1), .int .i64 m.pc, (.slice Am2 m.mem.length cm2), .int .i64 m.save, .bool m.lets, .bool m.waits, .int .i64 m.halt, (.slice Am3 m.ins.length cm3), (.slice Am4 m.outs.length cm4), .int .i64 m.count] 46)) #[.slice none 0 0, .int .i64 0, .slice none 0 0, .int .i64 0, .bool false, .bool false, .int .i64 0, .slice none 0 0, .slice none 0 0, .int .i64 0] 46); simpa using this)
  have hFres_0 : ∀ oo, ((((w.alloc (Obj.cells #[.int .i64 b.pc, .int .i64 b.len, (.slice Ab1 b.ops.length cb1), .int .i64 b.fin, .int .i64 b.x, .int .i64 b.y, .int .i64 b.k] 25)).alloc (Obj.cells #[(.slice Am1 m.regs.length cm1), .int .i64 m.pc, (.slice Am2 m.mem.length cm2), .int .i64 m.save, .bool m.lets, .bool m.waits, .int .i64 m.halt, (.slice Am3 m.ins.length cm3), (.slice Am4 m.outs.length cm4), .int .i64 m.count] 46)).alloc (Obj.cells #[.slice none 0 0, .int .i64 0, .slice none 0 0, .int .i64 0, .bool false, .bool false, .int .i64 0, .slice none 0 0, .slice none 0 0, .int .i64 0] 46))).frozen? ⟨w.heap.size + 1 + 1, oo, none⟩ = false := (fz_new ((w.alloc (Obj.cells #[.int .i64 b.pc, .int .i64 b.len, (.slice Ab1 b.ops.length cb1), .int .i64 b.fin, .int .i64 b.x, .int .i64 b.y, .int .i64 b.k] 25)).alloc (Obj.cells #[(.slice Am1 m.regs.length cm1), .int .i64 m.pc, (.slice Am2 m.mem.length cm2), .int .i64 m.save, .bool m.lets, .bool m.waits, .int .i64 m.halt, (.slice Am3 m.ins.length cm3), (.slice Am4 m.outs.length cm4), .int .i64 m.count] 46)) #[.slice none 0 0, .int .i64 0, .slice none 0 0, .int .i64 0, .bool false, .bool false, .int .i64 0, .slice none 0 0, .slice none 0 0, .int .i64 0] 46 (by first | rfl | (simp; done)))
  generalize (((w.alloc (Obj.cells #[.int .i64 b.pc, .int .i64 b.len, (.slice Ab1 b.ops.length cb1), .int .i64 b.fin, .int .i64 b.x, .int .i64 b.y, .int .i64 b.k] 25)).alloc (Obj.cells #[(.slice Am1 m.regs.length cm1), .int .i64 m.pc, (.slice Am2 m.mem.length cm2), .int .i64 m.save, .bool m.lets, .bool m.waits, .int .i64 m.halt, (.slice Am3 m.ins.length cm3), (.slice Am4 m.outs.length cm4), .int .i64 m.count] 46)).alloc (Obj.cells #[.slice none 0 0, .int .i64 0, .slice none 0 0, .int .i64 0, .bool false, .bool false, .int .i64 0, .slice none 0 0, .slice none 0 0, .int .i64 0] 46)) = w0 at *
  have yb : w.heap.size < w0.heap.size := by omega
  have xb0 := hBb_0 0 _ rfl
  have xb1 := hBb_0 1 _ rfl
  have xb2 := hBb_0 2 _ rfl
  have xb3 := hBb_0 3 _ rfl
  have xb4 := hBb_0 4 _ rfl
  have xb5 := hBb_0 5 _ rfl
  have xb6 := hBb_0 6 _ rfl
  have fb := hFb_0
  have ym : w.heap.size + 1 < w0.heap.size := by omega
  have xm0 := hBm_0 0 _ rfl
  have xm1 := hBm_0 1 _ rfl
  have xm2 := hBm_0 2 _ rfl
  have xm3 := hBm_0 3 _ rfl
  have xm4 := hBm_0 4 _ rfl
  have xm5 := hBm_0 5 _ rfl
  have xm6 := hBm_0 6 _ rfl
  have xm7 := hBm_0 7 _ rfl
  have xm8 := hBm_0 8 _ rfl
  have xm9 := hBm_0 9 _ rfl
  have fm := hFm_0
  have yres : w.heap.size + 1 + 1 < w0.heap.size := by omega
  have xres0 := hBres_0 0 _ rfl
  have xres1 := hBres_0 1 _ rfl
  have xres2 := hBres_0 2 _ rfl
  have xres3 := hBres_0 3 _ rfl
  have xres4 := hBres_0 4 _ rfl
  have xres5 := hBres_0 5 _ rfl
  have xres6 := hBres_0 6 _ rfl
  have xres7 := hBres_0 7 _ rfl
  have xres8 := hBres_0 8 _ rfl
  have xres9 := hBres_0 9 _ rfl
  have fres := hFres_0
  go_wp2_with fail
  refine (implIrOk_any b _ _ (hb1.ext he0) hbo).mono ?_
  rintro e w1 ⟨rfl, hy⟩
  simp only [q0]
  clear q0
  clear xb0 xb1 xb2 xb3 xb4 xb5 xb6 yb
  clear fb
  clear xm0 xm1 xm2 xm3 xm4 xm5 xm6 xm7 xm8 xm9 ym
  clear fm
  clear xres0 xres1 xres2 xres3 xres4 xres5 xres6 xres7 xres8 xres9 yres
  clear fres
  have hs1 := hy.size
  try simp at hs1
  have he1 : Ext w w1 := Ext.trans (Ext.hold he0) hy
  have hBb_1 : Bx w1 (w.heap.size) [.int .i64 b.pc, .int .i64 b.len, (.slice Ab1 b.ops.length cb1), .int .i64 b.fin, .int .i64 b.x, .int .i64 b.y, .int .i64 b.k] := hy.bx (Bx.hold hBb_0) (by first | omega | (simp; done) | (simp; omega))
  have hFb_1 : ∀ oo, w1.frozen? ⟨w.heap.size, oo, none⟩ = false := fun oo => (hy.frozen (by first | omega | (simp; done) | (simp; omega))).trans ((fz_hold hFb_0) oo)
  have hBm_1 : Bx w1 (w.heap.size + 1) [(.slice Am1 m.regs.length cm1), .int .i64 m.pc, (.slice Am2 m.mem.length cm2), .int .i64 m.save, .bool m.lets, .bool m.waits, .int .i64 m.halt, (.slice Am3 m.ins.length cm3), (.slice Am4 m.outs.length cm4), .int .i64 m.count] := hy.bx (Bx.hold hBm_0) (by first | omega | (simp; done) | (simp; omega))
  have hFm_1 : ∀ oo, w1.frozen? ⟨w.heap.size + 1, oo, none⟩ = false := fun oo => (hy.frozen (by first | omega | (simp; done) | (simp; omega))).trans ((fz_hold hFm_0) oo)
  have hBres_1 : Bx w1 (w.heap.size + 1 + 1) [.slice none 0 0, .int .i64 0, .slice none 0 0, .int .i64 0, .bool false, .bool false, .int .i64 0, .slice none 0 0, .slice none 0 0, .int .i64 0] := hy.bx (Bx.hold hBres_0) (by first | omega | (simp; done) | (simp; omega))
  have hFres_1 : ∀ oo, w1.frozen? ⟨w.heap.size + 1 + 1, oo, none⟩ = false := fun oo => (hy.frozen (by first | omega | (simp; done) | (simp; omega))).trans ((fz_hold hFres_0) oo)
  try clear hBb_0 hFb_0 hBm_0 hFm_0 hBres_0 hFres_0
  clear hy
  have yb : w.heap.size < w1.heap.size := by omega
  have xb0 := hBb_1 0 _ rfl
  have xb1 := hBb_1 1 _ rfl
  have xb2 := hBb_1 2 _ rfl
  have xb3 := hBb_1 3 _ rfl
  have xb4 := hBb_1 4 _ rfl
  have xb5 := hBb_1 5 _ rfl
  have xb6 := hBb_1 6 _ rfl
  have fb := hFb_1
  have ym : w.heap.size + 1 < w1.heap.size := by omega
  have xm0 := hBm_1 0 _ rfl
  have xm1 := hBm_1 1 _ rfl
  have xm2 := hBm_1 2 _ rfl
  have xm3 := hBm_1 3 _ rfl
  have xm4 := hBm_1 4 _ rfl
  have xm5 := hBm_1 5 _ rfl
  have xm6 := hBm_1 6 _ rfl
  have xm7 := hBm_1 7 _ rfl
  have xm8 := hBm_1 8 _ rfl
  have xm9 := hBm_1 9 _ rfl
  have fm := hFm_1
  have yres : w.heap.size + 1 + 1 < w1.heap.size := by omega
  have xres0 := hBres_1 0 _ rfl
  have xres1 := hBres_1 1 _ rfl
  have xres2 := hBres_1 2 _ rfl
  have xres3 := hBres_1 3 _ rfl
  have xres4 := hBres_1 4 _ rfl
  have xres5 := hBres_1 5 _ rfl
  have xres6 := hBres_1 6 _ rfl
  have xres7 := hBres_1 7 _ rfl
  have xres8 := hBres_1 8 _ rfl
  have xres9 := hBres_1 9 _ rfl
  have fres := hFres_1
  go_wp2_with fail
  refine (implMchOk_any m _ _ _ _ _ (hm1.ext he1) (hm2.ext he1) (hm3.ext he1) (hm4.ext he1)).mono ?_
  rintro e w2 ⟨rfl, hy⟩
  simp only [q1]
  clear q1
  clear xb0 xb1 xb2 xb3 xb4 xb5 xb6 yb
  clear fb
  clear xm0 xm1 xm2 xm3 xm4 xm5 xm6 xm7 xm8 xm9 ym
  clear fm
  clear xres0 xres1 xres2 xres3 xres4 xres5 xres6 xres7 xres8 xres9 yres
  clear fres
  have hs2 := hy.size
  try simp at hs2
  have he2 : Ext w w2 := Ext.trans (Ext.hold he1) hy
  have hBb_2 : Bx w2 (w.heap.size) [.int .i64 b.pc, .int .i64 b.len, (.slice Ab1 b.ops.length cb1), .int .i64 b.fin, .int .i64 b.x, .int .i64 b.y, .int .i64 b.k] := hy.bx (Bx.hold hBb_1) (by first | omega | (simp; done) | (simp; omega))
  have hFb_2 : ∀ oo, w2.frozen? ⟨w.heap.size, oo, none⟩ = false := fun oo => (hy.frozen (by first | omega | (simp; done) | (simp; omega))).trans ((fz_hold hFb_1) oo)
  have hBm_2 : Bx w2 (w.heap.size + 1) [(.slice Am1 m.regs.length cm1), .int .i64 m.pc, (.slice Am2 m.mem.length cm2), .int .i64 m.save, .bool m.lets, .bool m.waits, .int .i64 m.halt, (.slice Am3 m.ins.length cm3), (.slice Am4 m.outs.length cm4), .int .i64 m.count] := hy.bx (Bx.hold hBm_1) (by first | omega | (simp; done) | (simp; omega))
  have hFm_2 : ∀ oo, w2.frozen? ⟨w.heap.size + 1, oo, none⟩ = false := fun oo => (hy.frozen (by first | omega | (simp; done) | (simp; omega))).trans ((fz_hold hFm_1) oo)
  have hBres_2 : Bx w2 (w.heap.size + 1 + 1) [.slice none 0 0, .int .i64 0, .slice none 0 0, .int .i64 0, .bool false, .bool false, .int .i64 0, .slice none 0 0, .slice none 0 0, .int .i64 0] := hy.bx (Bx.hold hBres_1) (by first | omega | (simp; done) | (simp; omega))
  have hFres_2 : ∀ oo, w2.frozen? ⟨w.heap.size + 1 + 1, oo, none⟩ = false := fun oo => (hy.frozen (by first | omega | (simp; done) | (simp; omega))).trans ((fz_hold hFres_1) oo)
  try clear hBb_1 hFb_1 hBm_1 hFm_1 hBres_1 hFres_1
  clear hy
  have yb : w.heap.size < w2.heap.size := by omega
  have xb0 := hBb_2 0 _ rfl
  have xb1 := hBb_2 1 _ rfl
  have xb2 := hBb_2 2 _ rfl
  have xb3 := hBb_2 3 _ rfl
  have xb4 := hBb_2 4 _ rfl
  have xb5 := hBb_2 5 _ rfl
  have xb6 := hBb_2 6 _ rfl
  have fb := hFb_2
  have ym : w.heap.size + 1 < w2.heap.size := by omega
  have xm0 := hBm_2 0 _ rfl
  have xm1 := hBm_2 1 _ rfl
  have xm2 := hBm_2 2 _ rfl
  have xm3 := hBm_2 3 _ rfl
  have xm4 := hBm_2 4 _ rfl
  have xm5 := hBm_2 5 _ rfl
  have xm6 := hBm_2 6 _ rfl
  have xm7 := hBm_2 7 _ rfl
  have xm8 := hBm_2 8 _ rfl
  have xm9 := hBm_2 9 _ rfl
  have fm := hFm_2
  have yres : w.heap.size + 1 + 1 < w2.heap.size := by omega
  have xres0 := hBres_2 0 _ rfl
  have xres1 := hBres_2 1 _ rfl
  have xres2 := hBres_2 2 _ rfl
  have xres3 := hBres_2 3 _ rfl
  have xres4 := hBres_2 4 _ rfl
  have xres5 := hBres_2 5 _ rfl
  have xres6 := hBres_2 6 _ rfl
  have xres7 := hBres_2 7 _ rfl
  have xres8 := hBres_2 8 _ rfl
  have xres9 := hBres_2 9 _ rfl
  have fres := hFres_2
  go_wp2_with fail
  have hBresK := hBres_2
  have hFresK := hFres_2
  refine (cloneMachF_any m _ _ _ _ _ (hm1.ext he2) (hm2.ext he2) (hm3.ext he2) (hm4.ext he2) hn1 hn2 hn3 hn4).mono ?_
  rintro e w3 ⟨r1, r2, r3, r4, F1, F2, F3, Fs, xs, rfl, hr1, hr2, hr3, hA4, hfl, hfr, hoa, hcap, -, hy⟩
  obtain ⟨g1, o1, c1, g2, o2, c2, rfl, rfl, hM⟩ := Mach.fresh hr1 hr2 hr3 hA4 hfl hfr hoa hk.rl hk.ml hcap
  clear hr1 hr2 hr3 hA4 hfl hfr hoa hcap
  obtain ⟨A3, c3, rfl, hl3, hq3⟩ := hM.form3
  obtain ⟨A4, c4, rfl, hl4, hq4⟩ := hM.form4
  unfold maxLen at hq3 hq4
  clear xb0 xb1 xb2 xb3 xb4 xb5 xb6 yb
  clear fb
  clear xm0 xm1 xm2 xm3 xm4 xm5 xm6 xm7 xm8 xm9 ym
  clear fm
  clear xres0 xres1 xres2 xres3 xres4 xres5 xres6 xres7 xres8 xres9 yres
  clear fres
  have hs3 := hy.size
  try simp at hs3
  have he3 : Ext w w3 := Ext.trans (Ext.hold he2) hy
  have hBb_3 : Bx w3 (w.heap.size) [.int .i64 b.pc, .int .i64 b.len, (.slice Ab1 b.ops.length cb1), .int .i64 b.fin, .int .i64 b.x, .int .i64 b.y, .int .i64 b.k] := hy.bx (Bx.hold hBb_2) (by first | omega | (simp; done) | (simp; omega))
  have hFb_3 : ∀ oo, w3.frozen? ⟨w.heap.size, oo, none⟩ = false := fun oo => (hy.frozen (by first | omega | (simp; done) | (simp; omega))).trans ((fz_hold hFb_2) oo)
  have hBm_3 : Bx w3 (w.heap.size + 1) [(.slice Am1 m.regs.length cm1), .int .i64 m.pc, (.slice Am2 m.mem.length cm2), .int .i64 m.save, .bool m.lets, .bool m.waits, .int .i64 m.halt, (.slice Am3 m.ins.length cm3), (.slice Am4 m.outs.length cm4), .int .i64 m.count] := hy.bx (Bx.hold hBm_2) (by first | omega | (simp; done) | (simp; omega))
  have hFm_3 : ∀ oo, w3.frozen? ⟨w.heap.size + 1, oo, none⟩ = false := fun oo => (hy.frozen (by first | omega | (simp; done) | (simp; omega))).trans ((fz_hold hFm_2) oo)
  have hBres_3 : Bx w3 (w.heap.size + 1 + 1) [.slice none 0 0, .int .i64 0, .slice none 0 0, .int .i64 0, .bool false, .bool false, .int .i64 0, .slice none 0 0, .slice none 0 0, .int .i64 0] := hy.bx (Bx.hold hBres_2) (by first | omega | (simp; done) | (simp; omega))
  have hFres_3 : ∀ oo, w3.frozen? ⟨w.heap.size + 1 + 1, oo, none⟩ = false := fun oo => (hy.frozen (by first | omega | (simp; done) | (simp; omega))).trans ((fz_hold hFres_2) oo)
  try clear hBb_2 hFb_2 hBm_2 hFm_2 hBres_2 hFres_2
  have heb : Ext w2 w3 := Ext.trans Ext.auto hy
  clear hy
  have yb : w.heap.size < w3.heap.size := by omega
  have xb0 := hBb_3 0 _ rfl
  have xb1 := hBb_3 1 _ rfl
  have xb2 := hBb_3 2 _ rfl
  have xb3 := hBb_3 3 _ rfl
  have xb4 := hBb_3 4 _ rfl
  have xb5 := hBb_3 5 _ rfl
  have xb6 := hBb_3 6 _ rfl
  have fb := hFb_3
  have ym : w.heap.size + 1 < w3.heap.size := by omega
  have xm0 := hBm_3 0 _ rfl
  have xm1 := hBm_3 1 _ rfl
  have xm2 := hBm_3 2 _ rfl
  have xm3 := hBm_3 3 _ rfl
  have xm4 := hBm_3 4 _ rfl
  have xm5 := hBm_3 5 _ rfl
  have xm6 := hBm_3 6 _ rfl
  have xm7 := hBm_3 7 _ rfl
  have xm8 := hBm_3 8 _ rfl
  have xm9 := hBm_3 9 _ rfl
  have fm := hFm_3
  have yres : w.heap.size + 1 + 1 < w3.heap.size := by omega
  have xres0 := hBres_3 0 _ rfl
  have xres1 := hBres_3 1 _ rfl
  have xres2 := hBres_3 2 _ rfl
  have xres3 := hBres_3 3 _ rfl
  have xres4 := hBres_3 4 _ rfl
  have xres5 := hBres_3 5 _ rfl
  have xres6 := hBres_3 6 _ rfl
  have xres7 := hBres_3 7 _ rfl
  have xres8 := hBres_3 8 _ rfl
  have xres9 := hBres_3 9 _ rfl
  have fres := hFres_3
  go_upto_region 4 with fail
  clear xb0 xb1 xb2 xb3 xb4 xb5 xb6 yb
  clear fb
  clear xm0 xm1 xm2 xm3 xm4 xm5 xm6 xm7 xm8 xm9 ym
  clear fm
  clear xres0 xres1 xres2 xres3 xres4 xres5 xres6 xres7 xres8 xres9 yres
  clear fres
  have he4 : Ext w (w3.alloc (Obj.cells #[(.slice (some ⟨g1, o1, none⟩) 4 c1), .int .i64 m.pc, (.slice (some ⟨g2, o2, none⟩) 64 c2), .int .i64 m.save, .bool m.lets, .bool m.waits, .int .i64 m.halt, (.slice A3 m.ins.length c3), (.slice A4 m.outs.length c4), .int .i64 m.count] 46)) := Ext.hold he3
  have hs4 : w3.heap.size + 1 ≤ ((w3.alloc (Obj.cells #[(.slice (some ⟨g1, o1, none⟩) 4 c1), .int .i64 m.pc, (.slice (some ⟨g2, o2, none⟩) 64 c2), .int .i64 m.save, .bool m.lets, .bool m.waits, .int .i64 m.halt, (.slice A3 m.ins.length c3), (.slice A4 m.outs.length c4), .int .i64 m.count] 46))).heap.size := by simp
  have hBb_4 : Bx (w3.alloc (Obj.cells #[(.slice (some ⟨g1, o1, none⟩) 4 c1), .int .i64 m.pc, (.slice (some ⟨g2, o2, none⟩) 64 c2), .int .i64 m.save, .bool m.lets, .bool m.waits, .int .i64 m.halt, (.slice A3 m.ins.length c3), (.slice A4 m.outs.length c4), .int .i64 m.count] 46)) (w.heap.size) [.int .i64 b.pc, .int .i64 b.len, (.slice Ab1 b.ops.length cb1), .int .i64 b.fin, .int .i64 b.x, .int .i64 b.y, .int .i64 b.k] := Bx.hold hBb_3
  have hFb_4 : ∀ oo, (w3.alloc (Obj.cells #[(.slice (some ⟨g1, o1, none⟩) 4 c1), .int .i64 m.pc, (.slice (some ⟨g2, o2, none⟩) 64 c2), .int .i64 m.save, .bool m.lets, .bool m.waits, .int .i64 m.halt, (.slice A3 m.ins.length c3), (.slice A4 m.outs.length c4), .int .i64 m.count] 46)).frozen? ⟨w.heap.size, oo, none⟩ = false := fz_hold hFb_3
  have hBm_4 : Bx (w3.alloc (Obj.cells #[(.slice (some ⟨g1, o1, none⟩) 4 c1), .int .i64 m.pc, (.slice (some ⟨g2, o2, none⟩) 64 c2), .int .i64 m.save, .bool m.lets, .bool m.waits, .int .i64 m.halt, (.slice A3 m.ins.length c3), (.slice A4 m.outs.length c4), .int .i64 m.count] 46)) (w.heap.size + 1) [(.slice Am1 m.regs.length cm1), .int .i64 m.pc, (.slice Am2 m.mem.length cm2), .int .i64 m.save, .bool m.lets, .bool m.waits, .int .i64 m.halt, (.slice Am3 m.ins.length cm3), (.slice Am4 m.outs.length cm4), .int .i64 m.count] := Bx.hold hBm_3
  have hFm_4 : ∀ oo, (w3.alloc (Obj.cells #[(.slice (some ⟨g1, o1, none⟩) 4 c1), .int .i64 m.pc, (.slice (some ⟨g2, o2, none⟩) 64 c2), .int .i64 m.save, .bool m.lets, .bool m.waits, .int .i64 m.halt, (.slice A3 m.ins.length c3), (.slice A4 m.outs.length c4), .int .i64 m.count] 46)).frozen? ⟨w.heap.size + 1, oo, none⟩ = false := fz_hold hFm_3
  have hBres_4 : Bx (w3.alloc (Obj.cells #[(.slice (some ⟨g1, o1, none⟩) 4 c1), .int .i64 m.pc, (.slice (some ⟨g2, o2, none⟩) 64 c2), .int .i64 m.save, .bool m.lets, .bool m.waits, .int .i64 m.halt, (.slice A3 m.ins.length c3), (.slice A4 m.outs.length c4), .int .i64 m.count] 46)) (w.heap.size + 1 + 1) [.slice none 0 0, .int .i64 0, .slice none 0 0, .int .i64 0, .bool false, .bool false, .int .i64 0, .slice none 0 0, .slice none 0 0, .int .i64 0] := Bx.hold hBres_3
  have hFres_4 : ∀ oo, (w3.alloc (Obj.cells #[(.slice (some ⟨g1, o1, none⟩) 4 c1), .int .i64 m.pc, (.slice (some ⟨g2, o2, none⟩) 64 c2), .int .i64 m.save, .bool m.lets, .bool m.waits, .int .i64 m.halt, (.slice A3 m.ins.length c3), (.slice A4 m.outs.length c4), .int .i64 m.count] 46)).frozen? ⟨w.heap.size + 1 + 1, oo, none⟩ = false := fz_hold hFres_3
  have hBx_4 : Bx (w3.alloc (Obj.cells #[(.slice (some ⟨g1, o1, none⟩) 4 c1), .int .i64 m.pc, (.slice (some ⟨g2, o2, none⟩) 64 c2), .int .i64 m.save, .bool m.lets, .bool m.waits, .int .i64 m.halt, (.slice A3 m.ins.length c3), (.slice A4 m.outs.length c4), .int .i64 m.count] 46)) (w3.heap.size) [(.slice (some ⟨g1, o1, none⟩) 4 c1), .int .i64 m.pc, (.slice (some ⟨g2, o2, none⟩) 64 c2), .int .i64 m.save, .bool m.lets, .bool m.waits, .int .i64 m.halt, (.slice A3 m.ins.length c3), (.slice A4 m.outs.length c4), .int .i64 m.count] := Bx.new w3 #[(.slice (some ⟨g1, o1, none⟩) 4 c1), .int .i64 m.pc, (.slice (some ⟨g2, o2, none⟩) 64 c2), .int .i64 m.save, .bool m.lets, .bool m.waits, .int .i64 m.halt, (.slice A3 m.ins.length c3), (.slice A4 m.outs.length c4), .int .i64 m.count] 46
  have hFx_4 : ∀ oo, (w3.alloc (Obj.cells #[(.slice (some ⟨g1, o1, none⟩) 4 c1), .int .i64 m.pc, (.slice (some ⟨g2, o2, none⟩) 64 c2), .int .i64 m.save, .bool m.lets, .bool m.waits, .int .i64 m.halt, (.slice A3 m.ins.length c3), (.slice A4 m.outs.length c4), .int .i64 m.count] 46)).frozen? ⟨w3.heap.size, oo, none⟩ = false := fz_new w3 #[(.slice (some ⟨g1, o1, none⟩) 4 c1), .int .i64 m.pc, (.slice (some ⟨g2, o2, none⟩) 64 c2), .int .i64 m.save, .bool m.lets, .bool m.waits, .int .i64 m.halt, (.slice A3 m.ins.length c3), (.slice A4 m.outs.length c4), .int .i64 m.count] 46 rfl
  have hMx := hM.addXs (show Ext w3 (w3.alloc (Obj.cells #[(.slice (some ⟨g1, o1, none⟩) 4 c1), .int .i64 m.pc, (.slice (some ⟨g2, o2, none⟩) 64 c2), .int .i64 m.save, .bool m.lets, .bool m.waits, .int .i64 m.halt, (.slice A3 m.ins.length c3), (.slice A4 m.outs.length c4), .int .i64 m.count] 46)) from Ext.auto) [w3.heap.size] (by intro b hb; simp at hb; subst hb; exact ⟨Nat.le_refl _, by simp⟩)
  have hebx := heb.trans (show Ext w3 (w3.alloc (Obj.cells #[(.slice (some ⟨g1, o1, none⟩) 4 c1), .int .i64 m.pc, (.slice (some ⟨g2, o2, none⟩) 64 c2), .int .i64 m.save, .bool m.lets, .bool m.waits, .int .i64 m.halt, (.slice A3 m.ins.length c3), (.slice A4 m.outs.length c4), .int .i64 m.count] 46)) from Ext.auto)
  generalize (w3.alloc (Obj.cells #[(.slice (some ⟨g1, o1, none⟩) 4 c1), .int .i64 m.pc, (.slice (some ⟨g2, o2, none⟩) 64 c2), .int .i64 m.save, .bool m.lets, .bool m.waits, .int .i64 m.halt, (.slice A3 m.ins.length c3), (.slice A4 m.outs.length c4), .int .i64 m.count] 46)) = w4 at *
  try clear hBb_3 hFb_3 hBm_3 hFm_3 hBres_3 hFres_3
  clear hM heb
  have zw1 : IntKind.i64.wrap (1000000 - b.len) = 1000000 - b.len := by rw [IntKind.wrap_i64]; omega
  by_cases h0 : m.halt = 0
  rotate_left
  · 
    have c1_ : (m.halt == 0) = false := by simp [h0]
    have hg : irGoes b m = false := by unfold irGoes; rw [c1_]; rfl
    have HV := hide (show irRun b m = m by rw [HV0.out, hg]; rfl)
    have HW := hide (HW0.out.trans hg)
    clear hg
    have yb : w.heap.size < w4.heap.size := by omega
    have xb0 := hBb_4 0 _ rfl
    have xb1 := hBb_4 1 _ rfl
    have xb2 := hBb_4 2 _ rfl
    have xb3 := hBb_4 3 _ rfl
    have xb4 := hBb_4 4 _ rfl
    have xb5 := hBb_4 5 _ rfl
    have xb6 := hBb_4 6 _ rfl
    have fb := hFb_4
    have ym : w.heap.size + 1 < w4.heap.size := by omega
    have xm0 := hBm_4 0 _ rfl
    have xm1 := hBm_4 1 _ rfl
    have xm2 := hBm_4 2 _ rfl
    have xm3 := hBm_4 3 _ rfl
    have xm4 := hBm_4 4 _ rfl
    have xm5 := hBm_4 5 _ rfl
    have xm6 := hBm_4 6 _ rfl
    have xm7 := hBm_4 7 _ rfl
    have xm8 := hBm_4 8 _ rfl
    have xm9 := hBm_4 9 _ rfl
    have fm := hFm_4
    have yx : w3.heap.size < w4.heap.size := by omega
    have xx0 := hBx_4 0 _ rfl
    have xx1 := hBx_4 1 _ rfl
    have xx2 := hBx_4 2 _ rfl
    have xx3 := hBx_4 3 _ rfl
    have xx4 := hBx_4 4 _ rfl
    have xx5 := hBx_4 5 _ rfl
    have xx6 := hBx_4 6 _ rfl
    have xx7 := hBx_4 7 _ rfl
    have xx8 := hBx_4 8 _ rfl
    have xx9 := hBx_4 9 _ rfl
    have fx := hFx_4
    go_upto_region 5 with fail
    clear xb0 xb1 xb2 xb3 xb4 xb5 xb6 yb
    clear fb
    clear xm0 xm1 xm2 xm3 xm4 xm5 xm6 xm7 xm8 xm9 ym
    clear fm
    clear xx0 xx1 xx2 xx3 xx4 xx5 xx6 xx7 xx8 xx9 yx
    clear fx
    have yx : w3.heap.size < w4.heap.size := by omega
    have xx0 := hBx_4 0 _ rfl
    have xx1 := hBx_4 1 _ rfl
    have xx2 := hBx_4 2 _ rfl
    have xx3 := hBx_4 3 _ rfl
    have xx4 := hBx_4 4 _ rfl
    have xx5 := hBx_4 5 _ rfl
    have xx6 := hBx_4 6 _ rfl
    have xx7 := hBx_4 7 _ rfl
    have xx8 := hBx_4 8 _ rfl
    have xx9 := hBx_4 9 _ rfl
    have fx := hFx_4
    obtain ⟨F1, F2, F3, F4, hO1, hO2, hO3, hO4, hFr⟩ := Mach.out hMx (w0 := w2) (Nat.le_refl _)
    have yres : w.heap.size + 1 + 1 < w4.heap.size := by omega
    have xres0 := hBres_4 0 _ rfl
    have xres1 := hBres_4 1 _ rfl
    have xres2 := hBres_4 2 _ rfl
    have xres3 := hBres_4 3 _ rfl
    have xres4 := hBres_4 4 _ rfl
    have xres5 := hBres_4 5 _ rfl
    have xres6 := hBres_4 6 _ rfl
    have xres7 := hBres_4 7 _ rfl
    have xres8 := hBres_4 8 _ rfl
    have xres9 := hBres_4 9 _ rfl
    have fres := hFres_4
    go_wp2
    refine bodyPost_ret (v := .tuple #[.agg #[(.slice (some ⟨g1, o1, none⟩) 4 c1), .int .i64 m.pc, (.slice (some ⟨g2, o2, none⟩) 64 c2), .int .i64 m.save, .bool m.lets, .bool m.waits, .int .i64 m.halt, (.slice A3 m.ins.length c3), (.slice A4 m.outs.length c4), .int .i64 m.count], .bool false]) (by simp [results, Try.results26, go_sem, xres0, xres1, xres2, xres3, xres4, xres5, xres6, xres7, xres8, xres9]) rfl ?_
    unfold IrPost
    rw [HV.out, HW.out]
    refine ⟨(.slice (some ⟨g1, o1, none⟩) 4 c1), (.slice (some ⟨g2, o2, none⟩) 64 c2), (.slice A3 m.ins.length c3), (.slice A4 m.outs.length c4), F1, F2, F3, F4, rfl, ?_, ?_, ?_, ?_, ?_, Ext.hold he4⟩
    · exact OwnSl.stay hO1 (fun z hb => by
        have q := hFr.2 z (by simp [hb]); have q1 := q.1; have q2 := q.2
        repeat (first | rw [heap_set _ _ _ _ (by show _ ≠ z; omega)] | rw [heap_set _ _ _ _ (by simp; omega)]))
    · exact OwnSl.stay hO2 (fun z hb => by
        have q := hFr.2 z (by simp [hb]); have q1 := q.1; have q2 := q.2
        repeat (first | rw [heap_set _ _ _ _ (by show _ ≠ z; omega)] | rw [heap_set _ _ _ _ (by simp; omega)]))
    · exact OwnSl.stay hO3 (fun z hb => by
        have q := hFr.2 z (by simp [hb]); have q1 := q.1; have q2 := q.2
        repeat (first | rw [heap_set _ _ _ _ (by show _ ≠ z; omega)] | rw [heap_set _ _ _ _ (by simp; omega)]))
    · exact OwnSl.stay hO4 (fun z hb => by
        have q := hFr.2 z (by simp [hb]); have q1 := q.1; have q2 := q.2
        repeat (first | rw [heap_set _ _ _ _ (by show _ ≠ z; omega)] | rw [heap_set _ _ _ _ (by simp; omega)]))
    · exact hFr.mk1 (by first | omega | (simp; done) | (simp; omega)) (by first | omega | (simp; done) | (simp; omega))
  have c1_ : (m.halt == 0) = true := by simp [h0]
  have E0 := hide h0
  clear h0
  by_cases h1 : m.pc = b.pc
  rotate_left
  · 
    have c2_ : (m.pc == b.pc) = false := by simp [h1]
    have hg : irGoes b m = false := by unfold irGoes; rw [c2_]; simp
    have HV := hide (show irRun b m = m by rw [HV0.out, hg]; rfl)
    have HW := hide (HW0.out.trans hg)
    clear hg
    have yb : w.heap.size < w4.heap.size := by omega
    have xb0 := hBb_4 0 _ rfl
    have xb1 := hBb_4 1 _ rfl
    have xb2 := hBb_4 2 _ rfl
    have xb3 := hBb_4 3 _ rfl
    have xb4 := hBb_4 4 _ rfl
    have xb5 := hBb_4 5 _ rfl
    have xb6 := hBb_4 6 _ rfl
    have fb := hFb_4
    have ym : w.heap.size + 1 < w4.heap.size := by omega
    have xm0 := hBm_4 0 _ rfl
    have xm1 := hBm_4 1 _ rfl
    have xm2 := hBm_4 2 _ rfl
    have xm3 := hBm_4 3 _ rfl
    have xm4 := hBm_4 4 _ rfl
    have xm5 := hBm_4 5 _ rfl
    have xm6 := hBm_4 6 _ rfl
    have xm7 := hBm_4 7 _ rfl
    have xm8 := hBm_4 8 _ rfl
    have xm9 := hBm_4 9 _ rfl
    have fm := hFm_4
    have yx : w3.heap.size < w4.heap.size := by omega
    have xx0 := hBx_4 0 _ rfl
    have xx1 := hBx_4 1 _ rfl
    have xx2 := hBx_4 2 _ rfl
    have xx3 := hBx_4 3 _ rfl
    have xx4 := hBx_4 4 _ rfl
    have xx5 := hBx_4 5 _ rfl
    have xx6 := hBx_4 6 _ rfl
    have xx7 := hBx_4 7 _ rfl
    have xx8 := hBx_4 8 _ rfl
    have xx9 := hBx_4 9 _ rfl
    have fx := hFx_4
    go_upto_region 5 with fail
    clear xb0 xb1 xb2 xb3 xb4 xb5 xb6 yb
    clear fb
    clear xm0 xm1 xm2 xm3 xm4 xm5 xm6 xm7 xm8 xm9 ym
    clear fm
    clear xx0 xx1 xx2 xx3 xx4 xx5 xx6 xx7 xx8 xx9 yx
    clear fx
    have yx : w3.heap.size < w4.heap.size := by omega
    have xx0 := hBx_4 0 _ rfl
    have xx1 := hBx_4 1 _ rfl
    have xx2 := hBx_4 2 _ rfl
    have xx3 := hBx_4 3 _ rfl
    have xx4 := hBx_4 4 _ rfl
    have xx5 := hBx_4 5 _ rfl
    have xx6 := hBx_4 6 _ rfl
    have xx7 := hBx_4 7 _ rfl
    have xx8 := hBx_4 8 _ rfl
    have xx9 := hBx_4 9 _ rfl
    have fx := hFx_4
    obtain ⟨F1, F2, F3, F4, hO1, hO2, hO3, hO4, hFr⟩ := Mach.out hMx (w0 := w2) (Nat.le_refl _)
    have yres : w.heap.size + 1 + 1 < w4.heap.size := by omega
    have xres0 := hBres_4 0 _ rfl
    have xres1 := hBres_4 1 _ rfl
    have xres2 := hBres_4 2 _ rfl
    have xres3 := hBres_4 3 _ rfl
    have xres4 := hBres_4 4 _ rfl
    have xres5 := hBres_4 5 _ rfl
    have xres6 := hBres_4 6 _ rfl
    have xres7 := hBres_4 7 _ rfl
    have xres8 := hBres_4 8 _ rfl
    have xres9 := hBres_4 9 _ rfl
    have fres := hFres_4
    go_wp2
    refine bodyPost_ret (v := .tuple #[.agg #[(.slice (some ⟨g1, o1, none⟩) 4 c1), .int .i64 m.pc, (.slice (some ⟨g2, o2, none⟩) 64 c2), .int .i64 m.save, .bool m.lets, .bool m.waits, .int .i64 0, (.slice A3 m.ins.length c3), (.slice A4 m.outs.length c4), .int .i64 m.count], .bool false]) (by simp [results, Try.results26, go_sem, xres0, xres1, xres2, xres3, xres4, xres5, xres6, xres7, xres8, xres9]) rfl ?_
    unfold IrPost
    rw [HV.out, HW.out]
    refine ⟨(.slice (some ⟨g1, o1, none⟩) 4 c1), (.slice (some ⟨g2, o2, none⟩) 64 c2), (.slice A3 m.ins.length c3), (.slice A4 m.outs.length c4), F1, F2, F3, F4, by rw [E0.out], ?_, ?_, ?_, ?_, ?_, Ext.hold he4⟩
    · exact OwnSl.stay hO1 (fun z hb => by
        have q := hFr.2 z (by simp [hb]); have q1 := q.1; have q2 := q.2
        repeat (first | rw [heap_set _ _ _ _ (by show _ ≠ z; omega)] | rw [heap_set _ _ _ _ (by simp; omega)]))
    · exact OwnSl.stay hO2 (fun z hb => by
        have q := hFr.2 z (by simp [hb]); have q1 := q.1; have q2 := q.2
        repeat (first | rw [heap_set _ _ _ _ (by show _ ≠ z; omega)] | rw [heap_set _ _ _ _ (by simp; omega)]))
    · exact OwnSl.stay hO3 (fun z hb => by
        have q := hFr.2 z (by simp [hb]); have q1 := q.1; have q2 := q.2
        repeat (first | rw [heap_set _ _ _ _ (by show _ ≠ z; omega)] | rw [heap_set _ _ _ _ (by simp; omega)]))
    · exact OwnSl.stay hO4 (fun z hb => by
        have q := hFr.2 z (by simp [hb]); have q1 := q.1; have q2 := q.2
        repeat (first | rw [heap_set _ _ _ _ (by show _ ≠ z; omega)] | rw [heap_set _ _ _ _ (by simp; omega)]))
    · exact hFr.mk1 (by first | omega | (simp; done) | (simp; omega)) (by first | omega | (simp; done) | (simp; omega))
  have c2_ : (m.pc == b.pc) = true := by simp [h1]
  have E1 := hide h1
  clear h1
  by_cases h2 : m.count ≤ 1000000 - b.len
  rotate_left
  · 
    have c3_ : decide (1000000 - b.len < m.count) = true := decide_eq_true (by omega)
    have hg : irGoes b m = false := by unfold irGoes; rw [decide_eq_false h2]; simp
    have HV := hide (show irRun b m = m by rw [HV0.out, hg]; rfl)
    have HW := hide (HW0.out.trans hg)
    clear hg
    have yb : w.heap.size < w4.heap.size := by omega
    have xb0 := hBb_4 0 _ rfl
    have xb1 := hBb_4 1 _ rfl
    have xb2 := hBb_4 2 _ rfl
    have xb3 := hBb_4 3 _ rfl
    have xb4 := hBb_4 4 _ rfl
    have xb5 := hBb_4 5 _ rfl
    have xb6 := hBb_4 6 _ rfl
    have fb := hFb_4
    have ym : w.heap.size + 1 < w4.heap.size := by omega
    have xm0 := hBm_4 0 _ rfl
    have xm1 := hBm_4 1 _ rfl
    have xm2 := hBm_4 2 _ rfl
    have xm3 := hBm_4 3 _ rfl
    have xm4 := hBm_4 4 _ rfl
    have xm5 := hBm_4 5 _ rfl
    have xm6 := hBm_4 6 _ rfl
    have xm7 := hBm_4 7 _ rfl
    have xm8 := hBm_4 8 _ rfl
    have xm9 := hBm_4 9 _ rfl
    have fm := hFm_4
    have yx : w3.heap.size < w4.heap.size := by omega
    have xx0 := hBx_4 0 _ rfl
    have xx1 := hBx_4 1 _ rfl
    have xx2 := hBx_4 2 _ rfl
    have xx3 := hBx_4 3 _ rfl
    have xx4 := hBx_4 4 _ rfl
    have xx5 := hBx_4 5 _ rfl
    have xx6 := hBx_4 6 _ rfl
    have xx7 := hBx_4 7 _ rfl
    have xx8 := hBx_4 8 _ rfl
    have xx9 := hBx_4 9 _ rfl
    have fx := hFx_4
    go_upto_region 5 with fail
    clear xb0 xb1 xb2 xb3 xb4 xb5 xb6 yb
    clear fb
    clear xm0 xm1 xm2 xm3 xm4 xm5 xm6 xm7 xm8 xm9 ym
    clear fm
    clear xx0 xx1 xx2 xx3 xx4 xx5 xx6 xx7 xx8 xx9 yx
    clear fx
    have yx : w3.heap.size < w4.heap.size := by omega
    have xx0 := hBx_4 0 _ rfl
    have xx1 := hBx_4 1 _ rfl
    have xx2 := hBx_4 2 _ rfl
    have xx3 := hBx_4 3 _ rfl
    have xx4 := hBx_4 4 _ rfl
    have xx5 := hBx_4 5 _ rfl
    have xx6 := hBx_4 6 _ rfl
    have xx7 := hBx_4 7 _ rfl
    have xx8 := hBx_4 8 _ rfl
    have xx9 := hBx_4 9 _ rfl
    have fx := hFx_4
    obtain ⟨F1, F2, F3, F4, hO1, hO2, hO3, hO4, hFr⟩ := Mach.out hMx (w0 := w2) (Nat.le_refl _)
    have yres : w.heap.size + 1 + 1 < w4.heap.size := by omega
    have xres0 := hBres_4 0 _ rfl
    have xres1 := hBres_4 1 _ rfl
    have xres2 := hBres_4 2 _ rfl
    have xres3 := hBres_4 3 _ rfl
    have xres4 := hBres_4 4 _ rfl
    have xres5 := hBres_4 5 _ rfl
    have xres6 := hBres_4 6 _ rfl
    have xres7 := hBres_4 7 _ rfl
    have xres8 := hBres_4 8 _ rfl
    have xres9 := hBres_4 9 _ rfl
    have fres := hFres_4
    go_wp2
    refine bodyPost_ret (v := .tuple #[.agg #[(.slice (some ⟨g1, o1, none⟩) 4 c1), .int .i64 b.pc, (.slice (some ⟨g2, o2, none⟩) 64 c2), .int .i64 m.save, .bool m.lets, .bool m.waits, .int .i64 0, (.slice A3 m.ins.length c3), (.slice A4 m.outs.length c4), .int .i64 m.count], .bool false]) (by simp [results, Try.results26, go_sem, xres0, xres1, xres2, xres3, xres4, xres5, xres6, xres7, xres8, xres9]) rfl ?_
    unfold IrPost
    rw [HV.out, HW.out]
    refine ⟨(.slice (some ⟨g1, o1, none⟩) 4 c1), (.slice (some ⟨g2, o2, none⟩) 64 c2), (.slice A3 m.ins.length c3), (.slice A4 m.outs.length c4), F1, F2, F3, F4, by rw [E0.out, E1.out], ?_, ?_, ?_, ?_, ?_, Ext.hold he4⟩
    · exact OwnSl.stay hO1 (fun z hb => by
        have q := hFr.2 z (by simp [hb]); have q1 := q.1; have q2 := q.2
        repeat (first | rw [heap_set _ _ _ _ (by show _ ≠ z; omega)] | rw [heap_set _ _ _ _ (by simp; omega)]))
    · exact OwnSl.stay hO2 (fun z hb => by
        have q := hFr.2 z (by simp [hb]); have q1 := q.1; have q2 := q.2
        repeat (first | rw [heap_set _ _ _ _ (by show _ ≠ z; omega)] | rw [heap_set _ _ _ _ (by simp; omega)]))
    · exact OwnSl.stay hO3 (fun z hb => by
        have q := hFr.2 z (by simp [hb]); have q1 := q.1; have q2 := q.2
        repeat (first | rw [heap_set _ _ _ _ (by show _ ≠ z; omega)] | rw [heap_set _ _ _ _ (by simp; omega)]))
    · exact OwnSl.stay hO4 (fun z hb => by
        have q := hFr.2 z (by simp [hb]); have q1 := q.1; have q2 := q.2
        repeat (first | rw [heap_set _ _ _ _ (by show _ ≠ z; omega)] | rw [heap_set _ _ _ _ (by simp; omega)]))
    · exact hFr.mk1 (by first | omega | (simp; done) | (simp; omega)) (by first | omega | (simp; done) | (simp; omega))
  have c3_ : decide (1000000 - b.len < m.count) = false := decide_eq_false (by omega)
  have hg : irGoes b m = true := by unfold irGoes; rw [c1_, c2_, decide_eq_true h2]; rfl
  have HV := hide (show irRun b m = rEnd b (rTo b m b.ops.length) by rw [HV0.out, hg]; rfl)
  have HW := hide (HW0.out.trans hg)
  clear hg
  have yb : w.heap.size < w4.heap.size := by omega
  have xb0 := hBb_4 0 _ rfl
  have xb1 := hBb_4 1 _ rfl
  have xb2 := hBb_4 2 _ rfl
  have xb3 := hBb_4 3 _ rfl
  have xb4 := hBb_4 4 _ rfl
  have xb5 := hBb_4 5 _ rfl
  have xb6 := hBb_4 6 _ rfl
  have fb := hFb_4
  have ym : w.heap.size + 1 < w4.heap.size := by omega
  have xm0 := hBm_4 0 _ rfl
  have xm1 := hBm_4 1 _ rfl
  have xm2 := hBm_4 2 _ rfl
  have xm3 := hBm_4 3 _ rfl
  have xm4 := hBm_4 4 _ rfl
  have xm5 := hBm_4 5 _ rfl
  have xm6 := hBm_4 6 _ rfl
  have xm7 := hBm_4 7 _ rfl
  have xm8 := hBm_4 8 _ rfl
  have xm9 := hBm_4 9 _ rfl
  have fm := hFm_4
  have yx : w3.heap.size < w4.heap.size := by omega
  have xx0 := hBx_4 0 _ rfl
  have xx1 := hBx_4 1 _ rfl
  have xx2 := hBx_4 2 _ rfl
  have xx3 := hBx_4 3 _ rfl
  have xx4 := hBx_4 4 _ rfl
  have xx5 := hBx_4 5 _ rfl
  have xx6 := hBx_4 6 _ rfl
  have xx7 := hBx_4 7 _ rfl
  have xx8 := hBx_4 8 _ rfl
  have xx9 := hBx_4 9 _ rfl
  have fx := hFx_4
  go_upto_region 6 with fail
  clear c1_ c2_ c3_
  clear xb0 xb1 xb2 xb3 xb4 xb5 xb6 yb
  clear fb
  clear xm0 xm1 xm2 xm3 xm4 xm5 xm6 xm7 xm8 xm9 ym
  clear fm
  clear xx0 xx1 xx2 xx3 xx4 xx5 xx6 xx7 xx8 xx9 yx
  clear fx
  have hln := rTo_lens b m b.ops.length (Nat.le_refl _)
  have hen := rEnd_lens b (rTo b m b.ops.length)
  have hRl : (rEnd b (rTo b m b.ops.length)).regs.length ≤ m.regs.length ∧ (rEnd b (rTo b m b.ops.length)).mem.length ≤ m.mem.length ∧ (rEnd b (rTo b m b.ops.length)).ins.length ≤ m.ins.length ∧ (rEnd b (rTo b m b.ops.length)).outs.length ≤ m.outs.length + b.ops.length := by rw [hen.1, hen.2.1, hen.2.2.1, hen.2.2.2]; omega
  clear hln hen
  have yb : w.heap.size < w4.heap.size := by omega
  have xb0 := hBb_4 0 _ rfl
  have xb1 := hBb_4 1 _ rfl
  have xb2 := hBb_4 2 _ rfl
  have xb3 := hBb_4 3 _ rfl
  have xb4 := hBb_4 4 _ rfl
  have xb5 := hBb_4 5 _ rfl
  have xb6 := hBb_4 6 _ rfl
  have fb := hFb_4
  go_wp2_with fail
  clear xb0 xb1 xb2 xb3 xb4 xb5 xb6 yb
  clear fb
  refine (irunI_any b m _ _ _ _ _ _ _ _ _ _ w2 _ hebx (hb1.ext he2) hbk.out hbo hMx hk E1.out E0.out h2 (by omega) w3.heap.size (by simp) hBx_4 hFx_4).mono ?_
  rintro e w5 ⟨rfl, v3', v4', hBF, hFF, hMF, hy, hsz⟩
  obtain ⟨A5, c5, rfl, -, -⟩ := hMF.form3
  obtain ⟨A6, c6, rfl, -, -⟩ := hMF.form4
  generalize rEnd b (rTo b m b.ops.length) = R at *
  have hs5 := hsz
  have hx0_ := Ext.size hy
  have he5 : Ext w w5 := he2.trans hy
  have hBx_5 := hBF
  have hFx_5 := hFF
  have hBres_5 : Bx w5 (w.heap.size + 1 + 1) [.slice none 0 0, .int .i64 0, .slice none 0 0, .int .i64 0, .bool false, .bool false, .int .i64 0, .slice none 0 0, .slice none 0 0, .int .i64 0] := hy.bx hBresK (by omega)
  have hFres_5 : ∀ oo, w5.frozen? ⟨w.heap.size + 1 + 1, oo, none⟩ = false := fun oo => (hy.frozen (by omega)).trans (hFresK oo)
  clear hy hBF hFF
  obtain ⟨sl1, sl2, sl3, sl4⟩ := hMF.sls
  have yx : w3.heap.size < w5.heap.size := by omega
  have xx0 := hBx_5 0 _ rfl
  have xx1 := hBx_5 1 _ rfl
  have xx2 := hBx_5 2 _ rfl
  have xx3 := hBx_5 3 _ rfl
  have xx4 := hBx_5 4 _ rfl
  have xx5 := hBx_5 5 _ rfl
  have xx6 := hBx_5 6 _ rfl
  have xx7 := hBx_5 7 _ rfl
  have xx8 := hBx_5 8 _ rfl
  have xx9 := hBx_5 9 _ rfl
  have fx := hFx_5
  go_wp2_with fail
  refine (cloneMach_any R _ _ _ _ _ sl1 sl2 sl3 sl4 (by omega) (by omega) (by omega) (by omega)).mono ?_
  rintro e w6 ⟨r1, r2, r3, r4, F1, F2, F3, F4, rfl, hO1, hO2, hO3, hO4, hFr, hy⟩
  clear xx0 xx1 xx2 xx3 xx4 xx5 xx6 xx7 xx8 xx9 yx
  clear fx
  have hs6 := hy.size
  try simp at hs6
  have he6 : Ext w w6 := Ext.trans (Ext.hold he5) hy
  have hBres_6 : Bx w6 (w.heap.size + 1 + 1) [.slice none 0 0, .int .i64 0, .slice none 0 0, .int .i64 0, .bool false, .bool false, .int .i64 0, .slice none 0 0, .slice none 0 0, .int .i64 0] := hy.bx (Bx.hold hBres_5) (by first | omega | (simp; done) | (simp; omega))
  have hFres_6 : ∀ oo, w6.frozen? ⟨w.heap.size + 1 + 1, oo, none⟩ = false := fun oo => (hy.frozen (by first | omega | (simp; done) | (simp; omega))).trans ((fz_hold hFres_5) oo)
  try clear hBres_5 hFres_5
  obtain ⟨B1, d1, rfl, -, -⟩ := hO1.sl.form
  obtain ⟨B2, d2, rfl, -, -⟩ := hO2.sl.form
  obtain ⟨B3, d3, rfl, -, -⟩ := hO3.sl.form
  obtain ⟨B4, d4, rfl, -, -⟩ := hO4.sl.form
  clear hy sl1 sl2 sl3 sl4
  have yres : w.heap.size + 1 + 1 < w6.heap.size := by omega
  have xres0 := hBres_6 0 _ rfl
  have xres1 := hBres_6 1 _ rfl
  have xres2 := hBres_6 2 _ rfl
  have xres3 := hBres_6 3 _ rfl
  have xres4 := hBres_6 4 _ rfl
  have xres5 := hBres_6 5 _ rfl
  have xres6 := hBres_6 6 _ rfl
  have xres7 := hBres_6 7 _ rfl
  have xres8 := hBres_6 8 _ rfl
  have xres9 := hBres_6 9 _ rfl
  have fres := hFres_6
  go_wp2
  refine bodyPost_ret (v := .tuple #[.agg #[(.slice B1 R.regs.length d1), .int .i64 R.pc, (.slice B2 R.mem.length d2), .int .i64 R.save, .bool R.lets, .bool R.waits, .int .i64 R.halt, (.slice B3 R.ins.length d3), (.slice B4 R.outs.length d4), .int .i64 R.count], .bool true]) (by simp [results, Try.results26, go_sem, xres0, xres1, xres2, xres3, xres4, xres5, xres6, xres7, xres8, xres9]) rfl ?_
  unfold IrPost
  rw [HV.out, HW.out]
  refine ⟨_, _, _, _, F1, F2, F3, F4, rfl, ?_, ?_, ?_, ?_, ?_, Ext.hold he6⟩
  · exact OwnSl.stay hO1 (fun b hb => by
      have q := hFr.2 b (by simp [hb]); have q1 := q.1; have q2 := q.2
      repeat (first | rw [heap_set _ _ _ _ (by show _ ≠ b; omega)] | rw [heap_set _ _ _ _ (by simp; omega)]))
  · exact OwnSl.stay hO2 (fun b hb => by
      have q := hFr.2 b (by simp [hb]); have q1 := q.1; have q2 := q.2
      repeat (first | rw [heap_set _ _ _ _ (by show _ ≠ b; omega)] | rw [heap_set _ _ _ _ (by simp; omega)]))
  · exact OwnSl.stay hO3 (fun b hb => by
      have q := hFr.2 b (by simp [hb]); have q1 := q.1; have q2 := q.2
      repeat (first | rw [heap_set _ _ _ _ (by show _ ≠ b; omega)] | rw [heap_set _ _ _ _ (by simp; omega)]))
  · exact OwnSl.stay hO4 (fun b hb => by
      have q := hFr.2 b (by simp [hb]); have q1 := q.1; have q2 := q.2
      repeat (first | rw [heap_set _ _ _ _ (by show _ ≠ b; omega)] | rw [heap_set _ _ _ _ (by simp; omega)]))
  · exact hFr.mk1 (by first | omega | (simp; done) | (simp; omega)) (by first | omega | (simp; done) | (simp; omega))

set_option maxHeartbeats 1000000 in
theorem implIrRun_p (b : IrBlock) (m : MchMach) (vb1 vm1 vm2 vm3 vm4 : Value) (w : World) (hb1 : Sl w (Old w) vb1 b.ops) (hm1 : Sl w (Old w) vm1 m.regs) (hm2 : Sl w (Old w) vm2 m.mem) (hm3 : Sl w (Old w) vm3 m.ins) (hm4 : Sl w (Old w) vm4 m.outs) (hn1 : m.regs.length ≤ 4194304) (hn2 : m.mem.length ≤ 4194304) (hn3 : m.ins.length ≤ 4194304) (hn4 : m.outs.length ≤ 4194304) (hbo : b.Ok) (hn5 : m.outs.length ≤ 4190000) :
    Calls Try.prog 26 #[.agg #[.int .i64 b.pc, .int .i64 b.len, vb1, .int .i64 b.fin, .int .i64 b.x, .int .i64 b.y, .int .i64 b.k], .agg #[vm1, .int .i64 m.pc, vm2, .int .i64 m.save, .bool m.lets, .bool m.waits, .int .i64 m.halt, vm3, vm4, .int .i64 m.count]] w fun e w' => ∃ (r1 r2 r3 r4 : Value) (F1 F2 F3 F4 : List Nat), e = .returned (.tuple #[.agg #[r1, .int .i64 (irRun b m).pc, r2, .int .i64 (irRun b m).save, .bool (irRun b m).lets, .bool (irRun b m).waits, .int .i64 (irRun b m).halt, r3, r4, .int .i64 (irRun b m).count], .bool (irRunOk b m)]) ∧ OwnSl w' r1 (irRun b m).regs F1 ∧ OwnSl w' r2 (irRun b m).mem F2 ∧ OwnSl w' r3 (irRun b m).ins F3 ∧ OwnSl w' r4 (irRun b m).outs F4 ∧ Fr w w' (F1 ++ F2 ++ F3 ++ F4) ∧ Ext w w' :=
  implIrRun_any b m vb1 vm1 vm2 vm3 vm4 w hb1 hm1 hm2 hm3 hm4 hn1 hn2 hn3 hn4 hbo hn5

end Go.Proofs.Yteaacelfnkiboaa
