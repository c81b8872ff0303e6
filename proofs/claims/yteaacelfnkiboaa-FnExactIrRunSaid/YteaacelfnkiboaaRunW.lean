/-
  A run through a piece of code: the reference.
-/
import Derived.Test.YteaacelfnkiboaaRunE
import Derived.Test.YteaacelfnkiboaaRunP
import Derived.Test.YteaacelfnkiboaaIrOkS
import Derived.Test.YteaacelfnkiboaaMachOk
import Derived.Test.YteaacelfnkiboaaMClone
import Derived.Deep.DeepCutAuto
import Derived.Deep.CutBlock
namespace Go.Proofs.Yteaacelfnkiboaa
open Go.RowKit

set_option linter.unusedVariables false
set_option linter.unusedSimpArgs false
set_option maxRecDepth 100000

set_option maxHeartbeats 64000000 in
theorem specIrRun_any (b : IrBlock) (m : MchMach) (vb1 vm1 vm2 vm3 vm4 : Value) (w : World) (hb1 : Sl w (Old w) vb1 b.ops) (hm1 : Sl w (Old w) vm1 m.regs) (hm2 : Sl w (Old w) vm2 m.mem) (hm3 : Sl w (Old w) vm3 m.ins) (hm4 : Sl w (Old w) vm4 m.outs) (hn1 : m.regs.length ≤ 4194304) (hn2 : m.mem.length ≤ 4194304) (hn3 : m.ins.length ≤ 4194304) (hn4 : m.outs.length ≤ 4194304) (hbo : b.Ok) (hn5 : m.outs.length ≤ 4190000) :
    Calls Try.prog 23 #[.agg #[.int .i64 b.pc, .int .i64 b.len, vb1, .int .i64 b.fin, .int .i64 b.x, .int .i64 b.y, .int .i64 b.k], .agg #[vm1, .int .i64 m.pc, vm2, .int .i64 m.save, .bool m.lets, .bool m.waits, .int .i64 m.halt, vm3, vm4, .int .i64 m.count]] w fun e w' => IrPost w (irRun b m) (irRunOk b m) e w' := by
  obtain ⟨Ab1, cb1, rfl, hlb1, hmb1⟩ := hb1.form
  obtain ⟨Am1, cm1, rfl, hlm1, hmm1⟩ := hm1.form
  obtain ⟨Am2, cm2, rfl, hlm2, hmm2⟩ := hm2.form
  obtain ⟨Am3, cm3, rfl, hlm3, hmm3⟩ := hm3.form
  obtain ⟨Am4, cm4, rfl, hlm4, hmm4⟩ := hm4.form
  obtain ⟨i0, hi, hz0, hz1, hz2⟩ := info_parts infInt
  have HI := hide hi
  have HZ0 := hide hz0
  have HZ1 := hide hz1
  have HZ2 := hide hz2
  clear hi hz0 hz1 hz2
  cases q0 : irOkB b
  · 
    have HV := hide (show irRun b m = emptyMach by unfold irRun; rw [q0]; rfl)
    have HW := hide (show irRunOk b m = false by unfold irRunOk; rw [q0]; rfl)
    go_enter Try.func23, Try.ntmps23
    go_upto_region 1 with fail
    have he0 : Ext w (((w.alloc (Obj.cells #[.int .i64 b.pc, .int .i64 b.len, (.slice Ab1 b.ops.length cb1), .int .i64 b.fin, .int .i64 b.x, .int .i64 b.y, .int .i64 b.k] 25)).alloc (Obj.cells #[(.slice Am1 m.regs.length cm1), .int .i64 m.pc, (.slice Am2 m.mem.length cm2), .int .i64 m.save, .bool m.lets, .bool m.waits, .int .i64 m.halt, (.slice Am3 m.ins.length cm3), (.slice Am4 m.outs.length cm4), .int .i64 m.count] 46)).alloc (Obj.cells #[.slice none 0 0, .int .i64 0, .slice none 0 0, .int .i64 0, .bool false, .bool false, .int .i64 0, .slice none 0 0, .slice none 0 0, .int .i64 0] 46)) := (Ext.auto)
    have hs0 : w.heap.size + 3 ≤ ((((w.alloc (Obj.cells #[.int .i64 b.pc, .int .i64 b.len, (.slice Ab1 b.ops.length cb1), .int .i64 b.fin, .int .i64 b.x, .int .i64 b.y, .int .i64 b.k] 25)).alloc (Obj.cells #[(.slice Am1 m.regs.length cm1), .int .i64 m.pc, (.slice Am2 m.mem.length cm2), .int .i64 m.save, .bool m.lets, .bool m.waits, .int .i64 m.halt, (.slice Am3 m.ins.length cm3), (.slice Am4 m.outs.length cm4), .int .i64 m.count] 46)).alloc (Obj.cells #[.slice none 0 0, .int .i64 0, .slice none 0 0, .int .i64 0, .bool false, .bool false, .int .i64 0, .slice none 0 0, .slice none 0 0, .int .i64 0] 46))).heap.size := by simp
    have hq0 := hide (show ((((w.alloc (Obj.cells #[.int .i64 b.pc, .int .i64 b.len, (.slice Ab1 b.ops.length cb1), .int .i64 b.fin, .int .i64 b.x, .int .i64 b.y, .int .i64 b.k] 25)).alloc (Obj.cells #[(.slice Am1 m.regs.length cm1), .int .i64 m.pc, (.slice Am2 m.mem.length cm2), .int .i64 m.save, .bool m.lets, .bool m.waits, .int .i64 m.halt, (.slice Am3 m.ins.length cm3), (.slice Am4 m.outs.length cm4), .int .i64 m.count] 46)).alloc (Obj.cells #[.slice none 0 0, .int .i64 0, .slice none 0 0, .int .i64 0, .bool false, .bool false, .int .i64 0, .slice none 0 0, .slice none 0 0, .int .i64 0] 46))).heap.size = w.heap.size + 3 by simp)
    have hBb_0 : Bx (((w.alloc (Obj.cells #[.int .i64 b.pc, .int .i64 b.len, (.slice Ab1 b.ops.length cb1), .int .i64 b.fin, .int .i64 b.x, .int .i64 b.y, .int .i64 b.k] 25)).alloc (Obj.cells #[(.slice Am1 m.regs.length cm1), .int .i64 m.pc, (.slice Am2 m.mem.length cm2), .int .i64 m.save, .bool m.lets, .bool m.waits, .int .i64 m.halt, (.slice Am3 m.ins.length cm3), (.slice Am4 m.outs.length cm4), .int .i64 m.count] 46)).alloc (Obj.cells #[.slice none 0 0, .int .i64 0, .slice none 0 0, .int .i64 0, .bool false, .bool false, .int .i64 0, .slice none 0 0, .slice none 0 0, .int .i64 0] 46)) (w.heap.size) [.int .i64 b.pc, .int .i64 b.len, (.slice Ab1 b.ops.length cb1), .int .i64 b.fin, .int .i64 b.x, .int .i64 b.y, .int .i64 b.k] := (by have := (Bx.alloc (Bx.alloc (Bx.new w #[.int .i64 b.pc, .int .i64 b.len, (.slice Ab1 b.ops.length cb1), .int .i64 b.fin, .int .i64 b.x, .int .i64 b.y, .int .i64 b.k] 25) (by simp) #[(.slice Am1 m.regs.length cm1), .int .i64 m.pc, (.slice Am2 m.mem.length cm2), .int .i64 m.save, .bool m.lets, .bool m.waits, .int .i64 m.halt, (.slice Am3 m.ins.length cm3), (.slice Am4 m.outs.length cm4), .int .i64 m.count] 46) (by first | (simp; done) | (simp; omega)) #[.slice none 0 0, .int .i64 0, .slice none 0 0, .int .i64 0, .bool false, .bool false, .int .i64 0, .slice none 0 0, .slice none 0 0, .int .i64 0] 46); simpa using this)
    have hFb_0 : ∀ oo, ((((w.alloc (Obj.cells #[.int .i64 b.pc, .int .i64 b.len, (.slice Ab1 b.ops.length cb1), .int .i64 b.fin, .int .i64 b.x, .int .i64 b.y, .int .i64 b.k] 25)).alloc (Obj.cells #[(.slice Am1 m.regs.length cm1), .int .i64 m.pc, (.slice Am2 m.mem.length cm2), .int .i64 m.save, .bool m.lets, .bool m.waits, .int .i64 m.halt, (.slice Am3 m.ins.length cm3), (.slice Am4 m.outs.length cm4), .int .i64 m.count] 46)).alloc (Obj.cells #[.slice none 0 0, .int .i64 0, .slice none 0 0, .int .i64 0, .bool false, .bool false, .int .i64 0, .slice none 0 0, .slice none 0 0, .int .i64 0] 46))).frozen? ⟨w.heap.size, oo, none⟩ = false := (fz_alloc (fz_alloc (fz_new w #[.int .i64 b.pc, .int .i64 b.len, (.slice Ab1 b.ops.length cb1), .int .i64 b.fin, .int .i64 b.x, .int .i64 b.y, .int .i64 b.k] 25 (by first | rfl | (simp; done))) (by first | (simp; done) | (simp; omega)) (Obj.cells #[(.slice Am1 m.regs.length cm1), .int .i64 m.pc, (.slice Am2 m.mem.length cm2), .int .i64 m.save, .bool m.lets, .bool m.waits, .int .i64 m.halt, (.slice Am3 m.ins.length cm3), (.slice Am4 m.outs.length cm4), .int .i64 m.count] 46)) (by first | (simp; done) | (simp; omega)) (Obj.cells #[.slice none 0 0, .int .i64 0, .slice none 0 0, .int .i64 0, .bool false, .bool false, .int .i64 0, .slice none 0 0, .slice none 0 0, .int .i64 0] 46))
    have hBm_0 : Bx (((w.alloc (Obj.cells #[.int .i64 b.pc, .int .i64 b.len, (.slice Ab1 b.ops.length cb1), .int .i64 b.fin, .int .i64 b.x, .int .i64 b.y, .int .i64 b.k] 25)).alloc (Obj.cells #[(.slice Am1 m.regs.length cm1), .int .i64 m.pc, (.slice Am2 m.mem.length cm2), .int .i64 m.save, .bool m.lets, .bool m.waits, .int .i64 m.halt, (.slice Am3 m.ins.length cm3), (.slice Am4 m.outs.length cm4), .int .i64 m.count] 46)).alloc (Obj.cells #[.slice none 0 0, .int .i64 0, .slice none 0 0, .int .i64 0, .bool false, .bool false, .int .i64 0, .slice none 0 0, .slice none 0 0, .int .i64 0] 46)) (w.heap.size + 1) [(.slice Am1 m.regs.length cm1), .int .i64 m.pc, (.slice Am2 m.mem.length cm2), .int .i64 m.save, .bool m.lets, .bool m.waits, .int .i64 m.halt, (.slice Am3 m.ins.length cm3), (.slice Am4 m.outs.length cm4), .int .i64 m.count] := (by have := (Bx.alloc (Bx.new (w.alloc (Obj.cells #[.int .i64 b.pc, .int .i64 b.len, (.slice Ab1 b.ops.length cb1), .int .i64 b.fin, .int .i64 b.x, .int .i64 b.y, .int .i64 b.k] 25)) #[(.slice Am1 m.regs.length cm1), .int .i64 m.pc, (.slice Am2 m.mem.length cm2), .int .i64 m.save, .bool m.lets, .bool m.waits, .int .i64 m.halt, (.slice Am3 m.ins.length cm3), (.slice Am4 m.outs.length cm4), .int .i64 m.count] 46) (by simp) #[.slice none 0 0, .int .i64 0, .slice none 0 0, .int .i64 0, .bool false, .bool false, .int .i64 0, .slice none 0 0, .slice none 0 0, .int .i64 0] 46); simpa using this)
    have hFm_0 : ∀ oo, ((((w.alloc (Obj.cells #[.int .i64 b.pc, .int .i64 b.len, (.slice Ab1 b.ops.length cb1), .int .i64 b.fin, .int .i64 b.x, .int .i64 b.y, .int .i64 b.k] 25)).alloc (Obj.cells #[(.slice Am1 m.regs.length cm1), .int .i64 m.pc, (.slice Am2 m.mem.length cm2), .int .i64 m.save, .bool m.lets, .bool m.waits, .int .i64 m.halt, (.slice Am3 m.ins.length cm3), (.slice Am4 m.outs.length cm4), .int .i64 m.count] 46)).alloc (Obj.cells #[.slice none 0 0, .int .i64 0, .slice none 0 0, .int .i64 0, .bool false, .bool false, .int .i64 0, .slice none 0 0, .slice none 0 0, .int .i64 0] 46))).frozen? ⟨w.heap.size + 1, oo, none⟩ = false := (fz_alloc (fz_new (w.alloc (Obj.cells #[.int .i64 b.pc, .int .i64 b.len, (.slice Ab1 b.ops.length cb1), .int .i64 b.fin, .int .i64 b.x, .int .i64 b.y, .int .i64 b.k] 25)) #[(.slice Am1 m.regs.length cm1), .int .i64 m.pc, (.slice Am2 m.mem.length cm2), .int .i64 m.save, .bool m.lets, .bool m.waits, .int .i64 m.halt, (.slice Am3 m.ins.length cm3), (.slice Am4 m.outs.length cm4), .int .i64 m.count] 46 (by first | rfl | (simp; done))) (by first | (simp; done) | (simp; omega)) (Obj.cells #[.slice none 0 0, .int .i64 0, .slice none 0 0, .int .i64 0, .bool false, .bool false, .int .i64 0, .slice none 0 0, .slice none 0 0, .int .i64 0] 46))
    have hBres_0 : Bx (((w.alloc (Obj.cells #[.int .i64 b.pc, .int .i64 b.len, (.slice Ab1 b.ops.length cb1), .int .i64 b.fin, .int .i64 b.x, .int .i64 b.y, .int .i64 b.k] 25)).alloc (Obj.cells #[(.slice Am1 m.regs.length cm1), .int .i64 m.pc, (.slice Am2 m.mem.length cm2), .int .i64 m.save, .bool m.lets, .bool m.waits, .int .i64 m.halt, (.slice Am3 m.ins.length cm3), (.slice Am4 m.outs.length cm4), .int .i64 m.count] 46)).alloc (Obj.cells #[.slice none 0 0, .int .i64 0, .slice none 0 0, .int .i64 0, .bool false, .bool false, .int .i64 0, .slice none 0 0, .slice none 0 0, .int .i64 0] 46)) (w.heap.size + 1 + 1) [.slice none 0 0, .int .i64 0, .slice none 0 0, .int .i64 0, .bool false, .bool false, .int .i64 0, .slice none 0 0, .slice none 0 0, .int .i64 0] := (by have := (Bx.new ((w.alloc (Obj.cells #[.int .i64 b.pc, .int .i64 b.len, (.slice Ab1 b.ops.length cb1), .int .i64 b.fin, .int .i64 b.x, .int .i64 b.y, .int .i64 b.k] 25)).alloc (Obj.cells #[(.slice Am1 m.regs.length cm1), .int .i64 m.pc, (.slice Am2 m.mem.length cm2), .int .i64 m.save, .bool m.lets, .bool m.waits, .int .i64 m.halt, (.slice Am3 m.ins.length cm3), (.slice Am4 m.outs.length cm4), .int .i64 m.count] 46)) #[.slice none 0 0, .int .i64 0, .slice none 0 0, .int .i64 0, .bool false, .bool false, .int .i64 0, .slice none 0 0, .slice none 0 0, .int .i64 0] 46); simpa using this)
    have hFres_0 : ∀ oo, ((((w.alloc (Obj.cells #[.int .i64 b.pc, .int .i64 b.len, (.slice Ab1 b.ops.length cb1), .int .i64 b.fin, .int .i64 b.x, .int .i64 b.y, .int .i64 b.k] 25)).alloc (Obj.cells #[(.slice Am1 m.regs.length cm1), .int .i64 m.pc, (.slice Am2 m.mem.length cm2), .int .i64 m.save, .bool m.lets, .bool m.waits, .int .i64 m.halt, (.slice Am3 m.ins.length cm3), (.slice Am4 m.outs.length cm4), .int .i64 m.count] 46)).alloc (Obj.cells #[.slice none 0 0, .int .i64 0, .slice none 0 0, .int .i64 0, .bool false, .bool false, .int .i64 0, .slice none 0 0, .slice none 0 0, .int .i64 0] 46))).frozen? ⟨w.heap.size + 1 + 1, oo, none⟩ = false := (fz_new ((w.alloc (Obj.cells #[.int .i64 b.pc, .int .i64 b.len, (.slice Ab1 b.ops.length cb1), .int .i64 b.fin, .int .i64 b.x, .int .i64 b.y, .int .i64 b.k] 25)).alloc (Obj.cells #[(.slice Am1 m.regs.length cm1), .int .i64 m.pc, (.slice Am2 m.mem.length cm2), .int .i64 m.save, .bool m.lets, .bool m.waits, .int .i64 m.halt, (.slice Am3 m.ins.length cm3), (.slice Am4 m.outs.length cm4), .int .i64 m.count] 46)) #[.slice none 0 0, .int .i64 0, .slice none 0 0, .int .i64 0, .bool false, .bool false, .int .i64 0, .slice none 0 0, .slice none 0 0, .int .i64 0] 46 (by first | rfl | (simp; done)))
    generalize (((w.alloc (Obj.cells #[.int .i64 b.pc, .int .i64 b.len, (.slice Ab1 b.ops.length cb1), .int .i64 b.fin, .int .i64 b.x, .int .i64 b.y, .int .i64 b.k] 25)).alloc (Obj.cells #[(.slice Am1 m.regs.length cm1), .int .i64 m.pc, (.slice Am2 m.mem.length cm2), .int .i64 m.save, .bool m.lets, .bool m.waits, .int .i64 m.halt, (.slice Am3 m.ins.length cm3), (.slice Am4 m.outs.length cm4), .int .i64 m.count] 46)).alloc (Obj.cells #[.slice none 0 0, .int .i64 0, .slice none 0 0, .int .i64 0, .bool false, .bool false, .int .i64 0, .slice none 0 0, .slice none 0 0, .int .i64 0] 46)) = w0 at *
    have yb : w.heap.size < w0.heap.size := by omega
    have xb0 := hBb_0 0 _ rfl
    have xb1 := hBb_0 1 _ rfl
    have xb2 := hBb_0 2 _ rfl
    have xb3 := hBb_0 3 _ rfl
    have xb4 := hBb_0 4 _ rfl
    have xb5 := hBb_0 5 _ rfl
    have xb6 := hBb_0 6 _ rfl
    have fb := hFb_0
    have ym : w.heap.size + 1 < w0.heap.size := by omega
    have xm0 := hBm_0 0 _ rfl
    have xm1 := hBm_0 1 _ rfl
    have xm2 := hBm_0 2 _ rfl
    have xm3 := hBm_0 3 _ rfl
    have xm4 := hBm_0 4 _ rfl
    have xm5 := hBm_0 5 _ rfl
    have xm6 := hBm_0 6 _ rfl
    have xm7 := hBm_0 7 _ rfl
    have xm8 := hBm_0 8 _ rfl
    have xm9 := hBm_0 9 _ rfl
    have fm := hFm_0
    have yres : w.heap.size + 1 + 1 < w0.heap.size := by omega
    have xres0 := hBres_0 0 _ rfl
    have xres1 := hBres_0 1 _ rfl
    have xres2 := hBres_0 2 _ rfl
    have xres3 := hBres_0 3 _ rfl
    have xres4 := hBres_0 4 _ rfl
    have xres5 := hBres_0 5 _ rfl
    have xres6 := hBres_0 6 _ rfl
    have xres7 := hBres_0 7 _ rfl
    have xres8 := hBres_0 8 _ rfl
    have xres9 := hBres_0 9 _ rfl
    have fres := hFres_0
    go_wp2_with fail
    refine (specIrOk_any b _ _ (hb1.ext he0) hbo).mono ?_
    rintro e w1 ⟨rfl, hy⟩
    simp only [q0]
    clear xb0 xb1 xb2 xb3 xb4 xb5 xb6 yb
    clear fb
    clear xm0 xm1 xm2 xm3 xm4 xm5 xm6 xm7 xm8 xm9 ym
    clear fm
    clear xres0 xres1 xres2 xres3 xres4 xres5 xres6 xres7 xres8 xres9 yres
    clear fres
    have hs1 := hy.size
    try simp at hs1
    have he1 : Ext w w1 := Ext.trans (Ext.hold he0) hy
    have hBb_1 : Bx w1 (w.heap.size) [.int .i64 b.pc, .int .i64 b.len, (.slice Ab1 b.ops.length cb1), .int .i64 b.fin, .int .i64 b.x, .int .i64 b.y, .int .i64 b.k] := hy.bx (Bx.hold hBb_0) (by first | omega | (simp; done) | (simp; omega))
    have hFb_1 : ∀ oo, w1.frozen? ⟨w.heap.size, oo, none⟩ = false := fun oo => (hy.frozen (by first | omega | (simp; done) | (simp; omega))).trans ((fz_hold hFb_0) oo)
    have hBm_1 : Bx w1 (w.heap.size + 1) [(.slice Am1 m.regs.length cm1), .int .i64 m.pc, (.slice Am2 m.mem.length cm2), .int .i64 m.save, .bool m.lets, .bool m.waits, .int .i64 m.halt, (.slice Am3 m.ins.length cm3), (.slice Am4 m.outs.length cm4), .int .i64 m.count] := hy.bx (Bx.hold hBm_0) (by first | omega | (simp; done) | (simp; omega))
    have hFm_1 : ∀ oo, w1.frozen? ⟨w.heap.size + 1, oo, none⟩ = false := fun oo => (hy.frozen (by first | omega | (simp; done) | (simp; omega))).trans ((fz_hold hFm_0) oo)
    have hBres_1 : Bx w1 (w.heap.size + 1 + 1) [.slice none 0 0, .int .i64 0, .slice none 0 0, .int .i64 0, .bool false, .bool false, .int .i64 0, .slice none 0 0, .slice none 0 0, .int .i64 0] := hy.bx (Bx.hold hBres_0) (by first | omega | (simp; done) | (simp; omega))
    have hFres_1 : ∀ oo, w1.frozen? ⟨w.heap.size + 1 + 1, oo, none⟩ = false := fun oo => (hy.frozen (by first | omega | (simp; done) | (simp; omega))).trans ((fz_hold hFres_0) oo)
    try clear hBb_0 hFb_0 hBm_0 hFm_0 hBres_0 hFres_0
    clear hy
    have yres : w.heap.size + 1 + 1 < w1.heap.size := by omega
    have xres0 := hBres_1 0 _ rfl
    have xres1 := hBres_1 1 _ rfl
    have xres2 := hBres_1 2 _ rfl
    have xres3 := hBres_1 3 _ rfl
    have xres4 := hBres_1 4 _ rfl
    have xres5 := hBres_1 5 _ rfl
    have xres6 := hBres_1 6 _ rfl
    have xres7 := hBres_1 7 _ rfl
    have xres8 := hBres_1 8 _ rfl
    have xres9 := hBres_1 9 _ rfl
    have fres := hFres_1
    go_wp2
    refine bodyPost_ret (v := .tuple #[.agg #[.slice none 0 0, .int .i64 0, .slice none 0 0, .int .i64 0, .bool false, .bool false, .int .i64 0, .slice none 0 0, .slice none 0 0, .int .i64 0], .bool false]) (by simp [results, Try.results23, go_sem, xres0, xres1, xres2, xres3, xres4, xres5, xres6, xres7, xres8, xres9]) rfl ?_
    unfold IrPost
    rw [HV.out, HW.out]
    exact ⟨.slice none 0 0, .slice none 0 0, .slice none 0 0, .slice none 0 0, [], [], [], [], rfl, OwnSl.nil _, OwnSl.nil _, OwnSl.nil _, OwnSl.nil _, Fr.nil _ _, Ext.hold he1⟩
  cases q1 : mchOkB m
  · 
    have HV := hide (show irRun b m = emptyMach by unfold irRun; rw [q0, q1]; rfl)
    have HW := hide (show irRunOk b m = false by unfold irRunOk; rw [q0, q1]; rfl)
    go_enter Try.func23, Try.ntmps23
    go_upto_region 1 with fail
    have he0 : Ext w (((w.alloc (Obj.cells #[.int .i64 b.pc, .int .i64 b.len, (.slice Ab1 b.ops.length cb1), .int .i64 b.fin, .int .i64 b.x, .int .i64 b.y, .int .i64 b.k] 25)).alloc (Obj.cells #[(.slice Am1 m.regs.length cm1), .int .i64 m.pc, (.slice Am2 m.mem.length cm2), .int .i64 m.save, .bool m.lets, .bool m.waits, .int .i64 m.halt, (.slice Am3 m.ins.length cm3), (.slice Am4 m.outs.length cm4), .int .i64 m.count] 46)).alloc (Obj.cells #[.slice none 0 0, .int .i64 0, .slice none 0 0, .int .i64 0, .bool false, .bool false, .int .i64 0, .slice none 0 0, .slice none 0 0, .int .i64 0] 46)) := (Ext.auto)
    have hs0 : w.heap.size + 3 ≤ ((((w.alloc (Obj.cells #[.int .i64 b.pc, .int .i64 b.len, (.slice Ab1 b.ops.length cb1), .int .i64 b.fin, .int .i64 b.x, .int .i64 b.y, .int .i64 b.k] 25)).alloc (Obj.cells #[(.slice Am1 m.regs.length cm1), .int .i64 m.pc, (.slice Am2 m.mem.length cm2), .int .i64 m.save, .bool m.lets, .bool m.waits, .int .i64 m.halt, (.slice Am3 m.ins.length cm3), (.slice Am4 m.outs.length cm4), .int .i64 m.count] 46)).alloc (Obj.cells #[.slice none 0 0, .int .i64 0, .slice none 0 0, .int .i64 0, .bool false, .bool false, .int .i64 0, .slice none 0 0, .slice none 0 0, .int .i64 0] 46))).heap.size := by simp
    have hq0 := hide (show ((((w.alloc (Obj.cells #[.int .i64 b.pc, .int .i64 b.len, (.slice Ab1 b.ops.length cb1), .int .i64 b.fin, .int .i64 b.x, .int .i64 b.y, .int .i64 b.k] 25)).alloc (Obj.cells #[(.slice Am1 m.regs.length cm1), .int .i64 m.pc, (.slice Am2 m.mem.length cm2), .int .i64 m.save, .bool m.lets, .bool m.waits, .int .i64 m.halt, (.slice Am3 m.ins.length cm3), (.slice Am4 m.outs.length cm4), .int .i64 m.count] 46)).alloc (Obj.cells #[.slice none 0 0, .int .i64 0, .slice none 0 0, .int .i64 0, .bool false, .bool false, .int .i64 0, .slice none 0 0, .slice none 0 0, .int .i64 0] 46))).heap.size = w.heap.size + 3 by simp)
    have hBb_0 : Bx (((w.alloc (Obj.cells #[.int .i64 b.pc, .int .i64 b.len, (.slice Ab1 b.ops.length cb1), .int .i64 b.fin, .int .i64 b.x, .int .i64 b.y, .int .i64 b.k] 25)).alloc (Obj.cells #[(.slice Am1 m.regs.length cm1), .int .i64 m.pc, (.slice Am2 m.mem.length cm2), .int .i64 m.save, .bool m.lets, .bool m.waits, .int .i64 m.halt, (.slice Am3 m.ins.length cm3), (.slice Am4 m.outs.length cm4), .int .i64 m.count] 46)).alloc (Obj.cells #[.slice none 0 0, .int .i64 0, .slice none 0 0, .int .i64 0, .bool false, .bool false, .int .i64 0, .slice none 0 0, .slice none 0 0, .int .i64 0] 46)) (w.heap.size) [.int .i64 b.pc, .int .i64 b.len, (.slice Ab1 b.ops.length cb1), .int .i64 b.fin, .int .i64 b.x, .int .i64 b.y, .int .i64 b.k] := (by have := (Bx.alloc (Bx.alloc (Bx.new w #[.int .i64 b.pc, .int .i64 b.len, (.slice Ab1 b.ops.length cb1), .int .i64 b.fin, .int .i64 b.x, .int .i64 b.y, .int .i64 b.k] 25) (by simp) #[(.slice Am1 m.regs.length cm1), .int .i64 m.pc, (.slice Am2 m.mem.length cm2), .int .i64 m.save, .bool m.lets, .bool m.waits, .int .i64 m.halt, (.slice Am3 m.ins.length cm3), (.slice Am4 m.outs.length cm4), .int .i64 m.count] 46) (by first | (simp; done) | (simp; omega)) #[.slice none 0 0, .int .i64 0, .slice none 0 0, .int .i64 0, .bool false, .bool false, .int .i64 0, .slice none 0 0, .slice none 0 0, .int .i64 0] 46); simpa using this)
    have hFb_0 : ∀ oo, ((((w.alloc (Obj.cells #[.int .i64 b.pc, .int .i64 b.len, (.slice Ab1 b.ops.length cb1), .int .i64 b.fin, .int .i64 b.x, .int .i64 b.y, .int .i64 b.k] 25)).alloc (Obj.cells #[(.slice Am1 m.regs.length cm1), .int .i64 m.pc, (.slice Am2 m.mem.length cm2), .int .i64 m.save, .bool m.lets, .bool m.waits, .int .i64 m.halt, (.slice Am3 m.ins.length cm3), (.slice Am4 m.outs.length cm4), .int .i64 m.count] 46)).alloc (Obj.cells #[.slice none 0 0, .int .i64 0, .slice none 0 0, .int .i64 0, .bool false, .bool false, .int .i64 0, .slice none 0 0, .slice none 0 0, .int .i64 0] 46))).frozen? ⟨w.heap.size, oo, none⟩ = false := (fz_alloc (fz_alloc (fz_new w #[.int .i64 b.pc, .int .i64 b.len, (.slice Ab1 b.ops.length cb1), .int .i64 b.fin, .int .i64 b.x, .int .i64 b.y, .int .i64 b.k] 25 (by first | rfl | (simp; done))) (by first | (simp; done) | (simp; omega)) (Obj.cells #[(.slice Am1 m.regs.length cm1), .int .i64 m.pc, (.slice Am2 m.mem.length cm2), .int .i64 m.save, .bool m.lets, .bool m.waits, .int .i64 m.halt, (.slice Am3 m.ins.length cm3), (.slice Am4 m.outs.length cm4), .int .i64 m.count] 46)) (by first | (simp; done) | (simp; omega)) (Obj.cells #[.slice none 0 0, .int .i64 0, .slice none 0 0, .int .i64 0, .bool false, .bool false, .int .i64 0, .slice none 0 0, .slice none 0 0, .int .i64 0] 46))
    have hBm_0 : Bx (((w.alloc (Obj.cells #[.int .i64 b.pc, .int .i64 b.len, (.slice Ab1 b.ops.length cb1), .int .i64 b.fin, .int .i64 b.x, .int .i64 b.y, .int .i64 b.k] 25)).alloc (Obj.cells #[(.slice Am1 m.regs.length cm1), .int .i64 m.pc, (.slice Am2 m.mem.length cm2), .int .i64 m.save, .bool m.lets, .bool m.waits, .int .i64 m.halt, (.slice Am3 m.ins.length cm3), (.slice Am4 m.outs.length cm4), .int .i64 m.count] 46)).alloc (Obj.cells #[.slice none 0 0, .int .i64 0, .slice none 0 0, .int .i64 0, .bool false, .bool false, .int .i64 0, .slice none 0 0, .slice none 0 0, .int .i64 0] 46)) (w.heap.size + 1) [(.slice Am1 m.regs.length cm1), .int .i64 m.pc, (.slice Am2 m.mem.length cm2), .int .i64 m.save, .bool m.lets, .bool m.waits, .int .i64 m.halt, (.slice Am3 m.ins.length cm3), (.slice Am4 m.outs.length cm4), .int .i64 m.count] := (by have := (Bx.alloc (Bx.new (w.alloc (Obj.cells #[.int .i64 b.pc, .int .i64 b.len, (.slice Ab1 b.ops.length cb1), .int .i64 b.fin, .int .i64 b.x, .int .i64 b.y, .int .i64 b.k] 25)) #[(.slice Am1 m.regs.length cm1), .int .i64 m.pc, (.slice Am2 m.mem.length cm2), .int .i64 m.save, .bool m.lets, .bool m.waits, .int .i64 m.halt, (.slice Am3 m.ins.length cm3), (.slice Am4 m.outs.length cm4), .int .i64 m.count] 46) (by simp) #[.slice none 0 0, .int .i64 0, .slice none 0 0, .int .i64 0, .bool false, .bool false, .int .i64 0, .slice none 0 0, .slice none 0 0, .int .i64 0] 46); simpa using this)
    have hFm_0 : ∀ oo, ((((w.alloc (Obj.cells #[.int .i64 b.pc, .int .i64 b.len, (.slice Ab1 b.ops.length cb1), .int .i64 b.fin, .int .i64 b.x, .int .i64 b.y, .int .i64 b.k] 25)).alloc (Obj.cells #[(.slice Am1 m.regs.length cm1), .int .i64 m.pc, (.slice Am2 m.mem.length cm2), .int .i64 m.save, .bool m.lets, .bool m.waits, .int .i64 m.halt, (.slice Am3 m.ins.length cm3), (.slice Am4 m.outs.length cm4), .int .i64 m.count] 46)).alloc (Obj.cells #[.slice none 0 0, .int .i64 0, .slice none 0 0, .int .i64 0, .bool false, .bool false, .int .i64 0, .slice none 0 0, .slice none 0 0, .int .i64 0] 46))).frozen? ⟨w.heap.size + 1, oo, none⟩ = false := (fz_alloc (fz_new (w.alloc (Obj.cells #[.int .i64 b.pc, .int .i64 b.len, (.slice Ab1 b.ops.length cb1), .int .i64 b.fin, .int .i64 b.x, .int .i64 b.y, .int .i64 b.k] 25)) #[(.slice Am1 m.regs.length cm1), .int .i64 m.pc, (.slice Am2 m.mem.length cm2), .int .i64 m.save, .bool m.lets, .bool m.waits, .int .i64 m.halt, (.slice Am3 m.ins.length cm3), (.slice Am4 m.outs.length cm4), .int .i64 m.count] 46 (by first | rfl | (simp; done))) (by first | (simp; done) | (simp; omega)) (Obj.cells #[.slice none 0 0, .int .i64 0, .slice none 0 0, .int .i64 0, .bool false, .bool false, .int .i64 0, .slice none 0 0, .slice none 0 0, .int .i64 0] 46))
    have hBres_0 : Bx (((w.alloc (Obj.cells #[.int .i64 b.pc, .int .i64 b.len, (.slice Ab1 b.ops.length cb1), .int .i64 b.fin, .int .i64 b.x, .int .i64 b.y, .int .i64 b.k] 25)).alloc (Obj.cells #[(.slice Am1 m.regs.length cm1), .int .i64 m.pc, (.slice Am2 m.mem.length cm2), .int .i64 m.save, .bool m.lets, .bool m.waits, .int .i64 m.halt, (.slice Am3 m.ins.length cm3), (.slice Am4 m.outs.length cm4), .int .i64 m.count] 46)).alloc (Obj.cells #[.slice none 0 0, .int .i64 0, .slice none 0 0, .int .i64 0, .bool false, .bool false, .int .i64 0, .slice none 0 0, .slice none 0 0, .int .i64 0] 46)) (w.heap.size + 1 + 1) [.slice none 0 0, .int .i64 0, .slice none 0 0, .int .i64 0, .bool false, .bool false, .int .i64 0, .slice none 0 0, .slice none 0 0, .int .i64 0] := (by have := (Bx.new ((w.alloc (Obj.cells #[.int .i64 b.pc, .int .i64 b.len, (.slice Ab1 b.ops.length cb1), .int .i64 b.fin, .int .i64 b.x, .int .i64 b.y, .int .i64 b.k] 25)).alloc (Obj.cells #[(.slice Am1 m.regs.length cm1), .int .i64 m.pc, (.slice Am2 m.mem.length cm2), .int .i64 m.save, .bool m.lets, .bool m.waits, .int .i64 m.halt, (.slice Am3 m.ins.length cm3), (.slice Am4 m.outs.length cm4), .int .i64 m.count] 46)) #[.slice none 0 0, .int .i64 0, .slice none 0 0, .int .i64 0, .bool false, .bool false, .int .i64 0, .slice none 0 0, .slice none 0 0, .int .i64 0] 46); simpa using this)
    have hFres_0 : ∀ oo, ((((w.alloc (Obj.cells #[.int .i64 b.pc, .int .i64 b.len, (.slice Ab1 b.ops.length cb1), .int .i64 b.fin, .int .i64 b.x, .int .i64 b.y, .int .i64 b.k] 25)).alloc (Obj.cells #[(.slice Am1 m.regs.length cm1), .int .i64 m.pc, (.slice Am2 m.mem.length cm2), .int .i64 m.save, .bool m.lets, .bool m.waits, .int .i64 m.halt, (.slice Am3 m.ins.length cm3), (.slice Am4 m.outs.length cm4), .int .i64 m.count] 46)).alloc (Obj.cells #[.slice none 0 0, .int .i64 0, .slice none 0 0, .int .i64 0, .bool false, .bool false, .int .i64 0, .slice none 0 0, .slice none 0 0, .int .i64 0] 46))).frozen? ⟨w.heap.size + 1 + 1, oo, none⟩ = false := (fz_new ((w.alloc (Obj.cells #[.int .i64 b.pc, .int .i64 b.len, (.slice Ab1 b.ops.length cb1), .int .i64 b.fin, .int .i64 b.x, .int .i64 b.y, .int .i64 b.k] 25)).alloc (Obj.cells #[(.slice Am1 m.regs.length cm1), .int .i64 m.pc, (.slice Am2 m.mem.length cm2), .int .i64 m.save, .bool m.lets, .bool m.waits, .int .i64 m.halt, (.slice Am3 m.ins.length cm3), (.slice Am4 m.outs.length cm4), .int .i64 m.count] 46)) #[.slice none 0 0, .int .i64 0, .slice none 0 0, .int .i64 0, .bool false, .bool false, .int .i64 0, .slice none 0 0, .slice none 0 0, .int .i64 0] 46 (by first | rfl | (simp; done)))
    generalize (((w.alloc (Obj.cells #[.int .i64 b.pc, .int .i64 b.len, (.slice Ab1 b.ops.length cb1), .int .i64 b.fin, .int .i64 b.x, .int .i64 b.y, .int .i64 b.k] 25)).alloc (Obj.cells #[(.slice Am1 m.regs.length cm1), .int .i64 m.pc, (.slice Am2 m.mem.length cm2), .int .i64 m.save, .bool m.lets, .bool m.waits, .int .i64 m.halt, (.slice Am3 m.ins.length cm3), (.slice Am4 m.outs.length cm4), .int .i64 m.count] 46)).alloc (Obj.cells #[.slice none 0 0, .int .i64 0, .slice none 0 0, .int .i64 0, .bool false, .bool false, .int .i64 0, .slice none 0 0, .slice none 0 0, .int .i64 0] 46)) = w0 at *
    have yb : w.heap.size < w0.heap.size := by omega
    have xb0 := hBb_0 0 _ rfl
    have xb1 := hBb_0 1 _ rfl
    have xb2 := hBb_0 2 _ rfl
    have xb3 := hBb_0 3 _ rfl
    have xb4 := hBb_0 4 _ rfl
    have xb5 := hBb_0 5 _ rfl
    have xb6 := hBb_0 6 _ rfl
    have fb := hFb_0
    have ym : w.heap.size + 1 < w0.heap.size := by omega
    have xm0 := hBm_0 0 _ rfl
    have xm1 := hBm_0 1 _ rfl
    have xm2 := hBm_0 2 _ rfl
    have xm3 := hBm_0 3 _ rfl
    have xm4 := hBm_0 4 _ rfl
    have xm5 := hBm_0 5 _ rfl
    have xm6 := hBm_0 6 _ rfl
    have xm7 := hBm_0 7 _ rfl
    have xm8 := hBm_0 8 _ rfl
    have xm9 := hBm_0 9 _ rfl
    have fm := hFm_0
    have yres : w.heap.size + 1 + 1 < w0.heap.size := by omega
    have xres0 := hBres_0 0 _ rfl
    have xres1 := hBres_0 1 _ rfl
    have xres2 := hBres_0 2 _ rfl
    have xres3 := hBres_0 3 _ rfl
    have xres4 := hBres_0 4 _ rfl
    have xres5 := hBres_0 5 _ rfl
    have xres6 := hBres_0 6 _ rfl
    have xres7 := hBres_0 7 _ rfl
    have xres8 := hBres_0 8 _ rfl
    have xres9 := hBres_0 9 _ rfl
    have fres := hFres_0
    go_wp2_with fail
    refine (specIrOk_any b _ _ (hb1.ext he0) hbo).mono ?_
    rintro e w1 ⟨rfl, hy⟩
    simp only [q0]
    clear xb0 xb1 xb2 xb3 xb4 xb5 xb6 yb
    clear fb
    clear xm0 xm1 xm2 xm3 xm4 xm5 xm6 xm7 xm8 xm9 ym
    clear fm
    clear xres0 xres1 xres2 xres3 xres4 xres5 xres6 xres7 xres8 xres9 yres
    clear fres
    have hs1 := hy.size
    try simp at hs1
    have he1 : Ext w w1 := Ext.trans (Ext.hold he0) hy
    have hBb_1 : Bx w1 (w.heap.size) [.int .i64 b.pc, .int .i64 b.len, (.slice Ab1 b.ops.length cb1), .int .i64 b.fin, .int .i64 b.x, .int .i64 b.y, .int .i64 b.k] := hy.bx (Bx.hold hBb_0) (by first | omega | (simp; done) | (simp; omega))
    have hFb_1 : ∀ oo, w1.frozen? ⟨w.heap.size, oo, none⟩ = false := fun oo => (hy.frozen (by first | omega | (simp; done) | (simp; omega))).trans ((fz_hold hFb_0) oo)
    have hBm_1 : Bx w1 (w.heap.size + 1) [(.slice Am1 m.regs.length cm1), .int .i64 m.pc, (.slice Am2 m.mem.length cm2), .int .i64 m.save, .bool m.lets, .bool m.waits, .int .i64 m.halt, (.slice Am3 m.ins.length cm3), (.slice Am4 m.outs.length cm4), .int .i64 m.count] := hy.bx (Bx.hold hBm_0) (by first | omega | (simp; done) | (simp; omega))
    have hFm_1 : ∀ oo, w1.frozen? ⟨w.heap.size + 1, oo, none⟩ = false := fun oo => (hy.frozen (by first | omega | (simp; done) | (simp; omega))).trans ((fz_hold hFm_0) oo)
    have hBres_1 : Bx w1 (w.heap.size + 1 + 1) [.slice none 0 0, .int .i64 0, .slice none 0 0, .int .i64 0, .bool false, .bool false, .int .i64 0, .slice none 0 0, .slice none 0 0, .int .i64 0] := hy.bx (Bx.hold hBres_0) (by first | omega | (simp; done) | (simp; omega))
    have hFres_1 : ∀ oo, w1.frozen? ⟨w.heap.size + 1 + 1, oo, none⟩ = false := fun oo => (hy.frozen (by first | omega | (simp; done) | (simp; omega))).trans ((fz_hold hFres_0) oo)
    try clear hBb_0 hFb_0 hBm_0 hFm_0 hBres_0 hFres_0
    clear hy
    have yb : w.heap.size < w1.heap.size := by omega
    have xb0 := hBb_1 0 _ rfl
    have xb1 := hBb_1 1 _ rfl
    have xb2 := hBb_1 2 _ rfl
    have xb3 := hBb_1 3 _ rfl
    have xb4 := hBb_1 4 _ rfl
    have xb5 := hBb_1 5 _ rfl
    have xb6 := hBb_1 6 _ rfl
    have fb := hFb_1
    have ym : w.heap.size + 1 < w1.heap.size := by omega
    have xm0 := hBm_1 0 _ rfl
    have xm1 := hBm_1 1 _ rfl
    have xm2 := hBm_1 2 _ rfl
    have xm3 := hBm_1 3 _ rfl
    have xm4 := hBm_1 4 _ rfl
    have xm5 := hBm_1 5 _ rfl
    have xm6 := hBm_1 6 _ rfl
    have xm7 := hBm_1 7 _ rfl
    have xm8 := hBm_1 8 _ rfl
    have xm9 := hBm_1 9 _ rfl
    have fm := hFm_1
    have yres : w.heap.size + 1 + 1 < w1.heap.size := by omega
    have xres0 := hBres_1 0 _ rfl
    have xres1 := hBres_1 1 _ rfl
    have xres2 := hBres_1 2 _ rfl
    have xres3 := hBres_1 3 _ rfl
    have xres4 := hBres_1 4 _ rfl
    have xres5 := hBres_1 5 _ rfl
    have xres6 := hBres_1 6 _ rfl
    have xres7 := hBres_1 7 _ rfl
    have xres8 := hBres_1 8 _ rfl
    have xres9 := hBres_1 9 _ rfl
    have fres := hFres_1
    go_wp2_with fail
    refine (specMchOk_any m _ _ _ _ _ (hm1.ext he1) (hm2.ext he1) (hm3.ext he1) (hm4.ext he1)).mono ?_
    rintro e w2 ⟨rfl, hy⟩
    simp only [q1]
    clear xb0 xb1 xb2 xb3 xb4 xb5 xb6 yb
    clear fb
    clear xm0 xm1 xm2 xm3 xm4 xm5 xm6 xm7 xm8 xm9 ym
    clear fm
    clear xres0 xres1 xres2 xres3 xres4 xres5 xres6 xres7 xres8 xres9 yres
    clear fres
    have hs2 := hy.size
    try simp at hs2
    have he2 : Ext w w2 := Ext.trans (Ext.hold he1) hy
    have hBb_2 : Bx w2 (w.heap.size) [.int .i64 b.pc, .int .i64 b.len, (.slice Ab1 b.ops.length cb1), .int .i64 b.fin, .int .i64 b.x, .int .i64 b.y, .int .i64 b.k] := hy.bx (Bx.hold hBb_1) (by first | omega | (simp; done) | (simp; omega))
    have hFb_2 : ∀ oo, w2.frozen? ⟨w.heap.size, oo, none⟩ = false := fun oo => (hy.frozen (by first | omega | (simp; done) | (simp; omega))).trans ((fz_hold hFb_1) oo)
    have hBm_2 : Bx w2 (w.heap.size + 1) [(.slice Am1 m.regs.length cm1), .int .i64 m.pc, (.slice Am2 m.mem.length cm2), .int .i64 m.save, .bool m.lets, .bool m.waits, .int .i64 m.halt, (.slice Am3 m.ins.length cm3), (.slice Am4 m.outs.length cm4), .int .i64 m.count] := hy.bx (Bx.hold hBm_1) (by first | omega | (simp; done) | (simp; omega))
    have hFm_2 : ∀ oo, w2.frozen? ⟨w.heap.size + 1, oo, none⟩ = false := fun oo => (hy.frozen (by first | omega | (simp; done) | (simp; omega))).trans ((fz_hold hFm_1) oo)
    have hBres_2 : Bx w2 (w.heap.size + 1 + 1) [.slice none 0 0, .int .i64 0, .slice none 0 0, .int .i64 0, .bool false, .bool false, .int .i64 0, .slice none 0 0, .slice none 0 0, .int .i64 0] := hy.bx (Bx.hold hBres_1) (by first | omega | (simp; done) | (simp; omega))
    have hFres_2 : ∀ oo, w2.frozen? ⟨w.heap.size + 1 + 1, oo, none⟩ = false := fun oo => (hy.frozen (by first | omega | (simp; done) | (simp; omega))).trans ((fz_hold hFres_1) oo)
    try clear hBb_1 hFb_1 hBm_1 hFm_1 hBres_1 hFres_1
    clear hy
    have yres : w.heap.size + 1 + 1 < w2.heap.size := by omega
    have xres0 := hBres_2 0 _ rfl
    have xres1 := hBres_2 1 _ rfl
    have xres2 := hBres_2 2 _ rfl
    have xres3 := hBres_2 3 _ rfl
    have xres4 := hBres_2 4 _ rfl
    have xres5 := hBres_2 5 _ rfl
    have xres6 := hBres_2 6 _ rfl
    have xres7 := hBres_2 7 _ rfl
    have xres8 := hBres_2 8 _ rfl
    have xres9 := hBres_2 9 _ rfl
    have fres := hFres_2
    go_wp2
    refine bodyPost_ret (v := .tuple #[.agg #[.slice none 0 0, .int .i64 0, .slice none 0 0, .int .i64 0, .bool false, .bool false, .int .i64 0, .slice none 0 0, .slice none 0 0, .int .i64 0], .bool false]) (by simp [results, Try.results23, go_sem, xres0, xres1, xres2, xres3, xres4, xres5, xres6, xres7, xres8, xres9]) rfl ?_
    unfold IrPost
    rw [HV.out, HW.out]
    exact ⟨.slice none 0 0, .slice none 0 0, .slice none 0 0, .slice none 0 0, [], [], [], [], rfl, OwnSl.nil _, OwnSl.nil _, OwnSl.nil _, OwnSl.nil _, Fr.nil _ _, Ext.hold he2⟩
  have hk := mOk_iff.1 q1
  have hbk := hide q0
  have hpc := ok_pc q0
  have hle := ok_len q0
  have hbn := ok_n q0
  have H0 := hide q1
  have HV0 := hide (show irRun b m = if irGoes b m then rEnd b (rTo b m b.ops.length) else m by unfold irRun; rw [q0, q1]; rfl)
  have HW0 := hide (show irRunOk b m = irGoes b m by unfold irRunOk; rw [q0, q1]; rfl)
  go_enter Try.func23, Try.ntmps23
  go_upto_region 1 with fail
  have he0 : Ext w (((w.alloc (Obj.cells #[.int .i64 b.pc, .int .i64 b.len, (.slice Ab1 b.ops.length cb1), .int .i64 b.fin, .int .i64 b.x, .int .i64 b.y, .int .i64 b.k] 25)).alloc (Obj.cells #[(.slice Am1 m.regs.length cm1), .int .i64 m.pc, (.slice Am2 m.mem.length cm2), .int .i64 m.save, .bool m.lets, .bool m.waits, .int .i64 m.halt, (.slice Am3 m.ins.length cm3), (.slice Am4 m.outs.length cm4), .int .i64 m.count] 46)).alloc (Obj.cells #[.slice none 0 0, .int .i64 0, .slice none 0 0, .int .i64 0, .bool false, .bool false, .int .i64 0, .slice none 0 0, .slice none 0 0, .int .i64 0] 46)) := (Ext.auto)
  have hs0 : w.heap.size + 3 ≤ ((((w.alloc (Obj.cells #[.int .i64 b.pc, .int .i64 b.len, (.slice Ab1 b.ops.length cb1), .int .i64 b.fin, .int .i64 b.x, .int .i64 b.y, .int .i64 b.k] 25)).alloc (Obj.cells #[(.slice Am1 m.regs.length cm1), .int .i64 m.pc, (.slice Am2 m.mem.length cm2), .int .i64 m.save, .bool m.lets, .bool m.waits, .int .i64 m.halt, (.slice Am3 m.ins.length cm3), (.slice Am4 m.outs.length cm4), .int .i64 m.count] 46)).alloc (Obj.cells #[.slice none 0 0, .int .i64 0, .slice none 0 0, .int .i64 0, .bool false, .bool false, .int .i64 0, .slice none 0 0, .slice none 0 0, .int .i64 0] 46))).heap.size := by simp
  have hq0 := hide (show ((((w.alloc (Obj.cells #[.int .i64 b.pc, .int .i64 b.len, (.slice Ab1 b.ops.length cb1), .int .i64 b.fin, .int .i64 b.x, .int .i64 b.y, .int .i64 b.k] 25)).alloc (Obj.cells #[(.slice Am1 m.regs.length cm1), .int .i64 m.pc, (.slice Am2 m.mem.length cm2), .int .i64 m.save, .bool m.lets, .bool m.waits, .int .i64 m.halt, (.slice Am3 m.ins.length cm3), (.slice Am4 m.outs.length cm4), .int .i64 m.count] 46)).alloc (Obj.cells #[.slice none 0 0, .int .i64 0, .slice none 0 0, .int .i64 0, .bool false, .bool false, .int .i64 0, .slice none 0 0, .slice none 0 0, .int .i64 0] 46))).heap.size = w.heap.size + 3 by simp)
  have hBb_0 : Bx (((w.alloc (Obj.cells #[.int .i64 b.pc, .int .i64 b.len, (.slice Ab1 b.ops.length cb1), .int .i64 b.fin, .int .i64 b.x, .int .i64 b.y, .int .i64 b.k] 25)).alloc (Obj.cells #[(.slice Am1 m.regs.length cm1), .int .i64 m.pc, (.slice Am2 m.mem.length cm2), .int .i64 m.save, .bool m.lets, .bool m.waits, .int .i64 m.halt, (.slice Am3 m.ins.length cm3), (.slice Am4 m.outs.length cm4), .int .i64 m.count] 46)).alloc (Obj.cells #[.slice none 0 0, .int .i64 0, .slice none 0 0, .int .i64 0, .bool false, .bool false, .int .i64 0, .slice none 0 0, .slice none 0 0, .int .i64 0] 46)) (w.heap.size) [.int .i64 b.pc, .int .i64 b.len, (.slice Ab1 b.ops.length cb1), .int .i64 b.fin, .int .i64 b.x, .int .i64 b.y, .int .i64 b.k] := (by have := (Bx.alloc (Bx.alloc (Bx.new w #[.int .i64 b.pc, .int .i64 b.len, (.slice Ab1 b.ops.length cb1), .int .i64 b.fin, .int .i64 b.x, .int .i64 b.y, .int .i64 b.k] 25) (by simp) #[(.slice Am1 m.regs.length cm1), .int .i64 m.pc, (.slice Am2 m.mem.length cm2), .int .i64 m.save, .bool m.lets, .bool m.waits, .int .i64 m.halt, (.slice Am3 m.ins.length cm3), (.slice Am4 m.outs.length cm4), .int .i64 m.count] 46) (by first | (simp; done) | (simp; omega)) #[.slice none 0 0, .int .i64 0, .slice none 0 0, .int .i64 0, .bool false, .bool false, .int .i64 0, .slice none 0 0, .slice none 0 0, .int .i64 0] 46); simpa using this)
  have hFb_0 : ∀ oo, ((((w.alloc (Obj.cells #[.int .i64 b.pc, .int .i64 b.len, (.slice Ab1 b.ops.length cb1), .int .i64 b.fin, .int .i64 b.x, .int .i64 b.y, .int .i64 b.k] 25)).alloc (Obj.cells #[(.slice Am1 m.regs.length cm1), .int .i64 m.pc, (.slice Am2 m.mem.length cm2), .int .i64 m.save, .bool m.lets, .bool m.waits, .int .i64 m.halt, (.slice Am3 m.ins.length cm3), (.slice Am4 m.outs.length cm4), .int .i64 m.count] 46)).alloc (Obj.cells #[.slice none 0 0, .int .i64 0, .slice none 0 0, .int .i64 0, .bool false, .bool false, .int .i64 0, .slice none 0 0, .slice none 0 0, .int .i64 0] 46))).frozen? ⟨w.heap.size, oo, none⟩ = false := (fz_alloc (fz_alloc (fz_new w #[.int .i64 b.pc, .int .i64 b.len, (.slice Ab1 b.ops.length cb1), .int .i64 b.fin, .int .i64 b.x, .int .i64 b.y, .int .i64 b.k] 25 (by first | rfl | (simp; done))) (by first | (simp; done) | (simp; omega)) (Obj.cells #[(.slice Am1 m.regs.length cm1), .int .i64 m.pc, (.slice Am2 m.mem.length cm2), .int .i64 m.save, .bool m.lets, .bool m.waits, .int .i64 m.halt, (.slice Am3 m.ins.length cm3), (.slice Am4 m.outs.length cm4), .int .i64 m.count] 46)) (by first | (simp; done) | (simp; omega)) (Obj.cells #[.slice none 0 0, .int .i64 0, .slice none 0 0, .int .i64 0, .bool false, .bool false, .int .i64 0, .slice none 0 0, .slice none 0 0, .int .i64 0] 46))
  have hBm_0 : Bx (((w.alloc (Obj.cells #[.int .i64 b.pc, .int .i64 b.len, (.slice Ab1 b.ops.length cb1), .int .i64 b.fin, .int .i64 b.x, .int .i64 b.y, .int .i64 b.k] 25)).alloc (Obj.cells #[(.slice Am1 m.regs.length cm1), .int .i64 m.pc, (.slice Am2 m.mem.length cm2), .int .i64 m.save, .bool m.lets, .bool m.waits, .int .i64 m.halt, (.slice Am3 m.ins.length cm3), (.slice Am4 m.outs.length cm4), .int .i64 m.count] 46)).alloc (Obj.cells #[.slice none 0 0, .int .i64 0, .slice none 0 0, .int .i64 0, .bool false, .bool false, .int .i64 0, .slice none 0 0, .slice none 0 0, .int .i64 0] 46)) (w.heap.size + 1) [(.slice Am1 m.regs.length cm1), .int .i64 m.pc, (.slice Am2 m.mem.length cm2), .int .i64 m.save, .bool m.lets, .bool m.waits, .int .i64 m.halt, (.slice Am3 m.ins.length cm3), (.slice Am4 m.outs.length cm4), .int .i64 m.count] := (by have := (Bx.alloc (Bx.new (w.alloc (Obj.cells #[.int .i64 b.pc, .int .i64 b.len, (.slice Ab1 b.ops.length cb1), .int .i64 b.fin, .int .i64 b.x, .int .i64 b.y, .int .i64 b.k] 25)) #[(.slice Am1 m.regs.length cm1), .int .i64 m.pc, (.slice Am2 m.mem.length cm2), .int .i64 m.save, .bool m.lets, .bool m.waits, .int .i64 m.halt, (.slice Am3 m.ins.length cm3), (.slice Am4 m.outs.length cm4), .int .i64 m.count] 46) (by simp) #[.slice none 0 0, .int .i64 0, .slice none 0 0, .int .i64 0, .bool false, .bool false, .int .i64 0, .slice none 0 0, .slice none 0 0, .int .i64 0] 46); simpa using this)
  have hFm_0 : ∀ oo, ((((w.alloc (Obj.cells #[.int .i64 b.pc, .int .i64 b.len, (.slice Ab1 b.ops.length cb1), .int .i64 b.fin, .int .i64 b.x, .int .i64 b.y, .int .i64 b.k] 25)).alloc (Obj.cells #[(.slice Am1 m.regs.length cm1), .int .i64 m.pc, (.slice Am2 m.mem.length cm2), .int .i64 m.save, .bool m.lets, .bool m.waits, .int .i64 m.halt, (.slice Am3 m.ins.length cm3), (.slice Am4 m.outs.length cm4), .int .i64 m.count] 46)).alloc (Obj.cells #[.slice none 0 0, .int .i64 0, .slice none 0 0, .int .i64 0, .bool false, .bool false, .int .i64 0, .slice none 0 0, .slice none 0 0, .int .i64 0] 46))).frozen? ⟨w.heap.size + 1, oo, none⟩ = false := (fz_alloc (fz_new (w.alloc (Obj.cells #[.int .i64 b.pc, .int .i64 b.len, (.slice Ab1 b.ops.length cb1), .int .i64 b.fin, .int .i64 b.x, .int .i64 b.y, .int .i64 b.k] 25)) #[(.slice Am1 m.regs.length cm1), .int .i64 m.pc, (.slice Am2 m.mem.length cm2), .int .i64 m.save, .bool m.lets, .bool m.waits, .int .i64 m.halt, (.slice Am3 m.ins.length cm3), (.slice Am4 m.outs.length cm4), .int .i64 m.count] 46 (by first | rfl | (simp; done))) (by first | (simp; done) | (simp; omega)) (Obj.cells #[.slice none 0 0, .int .i64 0, .slice none 0 0, .int .i64 0, .bool false, .bool false, .int .i64 0, .slice none 0 0, .slice none 0 0, .int .i64 0] 46))
  have hBres_0 : Bx (((w.alloc (Obj.cells #[.int .i64 b.pc, .int .i64 b.len, (.slice Ab1 b.ops.length cb1), .int .i64 b.fin, .int .i64 b.x, .int .i64 b.y, .int .i64 b.k] 25)).alloc (Obj.cells #[(.slice Am1 m.regs.length cm1), .int .i64 m.pc, (.slice Am2 m.mem.length cm2), .int .i64 m.save, .bool m.lets, .bool m.waits, .int .i64 m.halt, (.slice Am3 m.ins.length cm3), (.slice Am4 m.outs.length cm4), .int .i64 m.count] 46)).alloc (Obj.cells #[.slice none 0 0, .int .i64 0, .slice none 0 0, .int .i64 0, .bool false, .bool false, .int .i64 0, .slice none 0 0, .slice none 0 0, .int .i64 0] 46)) (w.heap.size + 1 + 1) [.slice none 0 0, .int .i64 0, .slice none 0 0, .int .i64 0, .bool false, .bool false, .int .i64 0, .slice none 0 0, .slice none 0 0, .int .i64 0] := (by have := (Bx.new ((w.alloc (Obj.cells #[.int .i64 b.pc, .int .i64 b.len, (.slice Ab1 b.ops.length cb1), .int .i64 b.fin, .int .i64 b.x, .int .i64 b.y, .int .i64 b.k] 25)).alloc (Obj.cells #[(.slice Am1 m.regs.length cm1), .int .i64 m.pc, (.slice Am2 m.mem.length cm2), .int .i64 m.save, .bool m.lets, .bool m.waits, .int .i64 m.halt, (.slice Am3 m.ins.length cm3), (.slice Am4 m.outs.length cm4), .int .i64 m.count] 46)) #[.slice none 0 0, .int .i64 0, .slice none 0 0, .int .i64 0, .bool false, .bool false, .int .i64 0, .slice none 0 0, .slice none 0 0, .int .i64 0] 46); simpa using this)
  have hFres_0 : ∀ oo, ((((w.alloc (Obj.cells #[.int .i64 b.pc, .int .i64 b.len, (.slice Ab1 b.ops.length cb1), .int .i64 b.fin, .int .i64 b.x, .int .i64 b.y, .int .i64 b.k] 25)).alloc (Obj.cells #[(.slice Am1 m.regs.length cm1), .int .i64 m.pc, (.slice Am2 m.mem.length cm2), .int .i64 m.save, .bool m.lets, .bool m.waits, .int .i64 m.halt, (.slice Am3 m.ins.length cm3), (.slice Am4 m.outs.length cm4), .int .i64 m.count] 46)).alloc (Obj.cells #[.slice none 0 0, .int .i64 0, .slice none 0 0, .int .i64 0, .bool false, .bool false, .int .i64 0, .slice none 0 0, .slice none 0 0, .int .i64 0] 46))).frozen? ⟨w.heap.size + 1 + 1, oo, none⟩ = false := (fz_new ((w.alloc (Obj.cells #[.int .i64 b.pc, .int .i64 b.len, (.slice Ab1 b.ops.length cb1), .int .i64 b.fin, .int .i64 b.x, .int .i64 b.y, .int .i64 b.k] 25)).alloc (Obj.cells #[(.slice Am1 m.regs.length cm1), .int .i64 m.pc, (.slice Am2 m.mem.length cm2), .int .i64 m.save, .bool m.lets, .bool m.waits, .int .i64 m.halt, (.slice Am3 m.ins.length cm3), (.slice Am4 m.outs.length cm4), .int .i64 m.count] 46)) #[.slice none 0 0, .int .i64 0, .slice none 0 0, .int .i64 0, .bool false, .bool false, .int .i64 0, .slice none 0 0, .slice none 0 0, .int .i64 0] 46 (by first | rfl | (simp; done)))
  generalize (((w.alloc (Obj.cells #[.int .i64 b.pc, .int .i64 b.len, (.slice Ab1 b.ops.length cb1), .int .i64 b.fin, .int .i64 b.x, .int .i64 b.y, .int .i64 b.k] 25)).alloc (Obj.cells #[(.slice Am1 m.regs.length cm1), .int .i64 m.pc, (.slice Am2 m.mem.length cm2), .int .i64 m.save, .bool m.lets, .bool m.waits, .int .i64 m.halt, (.slice Am3 m.ins.length cm3), (.slice Am4 m.outs.length cm4), .int .i64 m.count] 46)).alloc (Obj.cells #[.slice none 0 0, .int .i64 0, .slice none 0 0, .int .i64 0, .bool false, .bool false, .int .i64 0, .slice none 0 0, .slice none 0 0, .int .i64 0] 46)) = w0 at *
  have yb : w.heap.size < w0.heap.size := by omega
  have xb0 := hBb_0 0 _ rfl
  have xb1 := hBb_0 1 _ rfl
  have xb2 := hBb_0 2 _ rfl
  have xb3 := hBb_0 3 _ rfl
  have xb4 := hBb_0 4 _ rfl
  have xb5 := hBb_0 5 _ rfl
  have xb6 := hBb_0 6 _ rfl
  have fb := hFb_0
  have ym : w.heap.size + 1 < w0.heap.size := by omega
  have xm0 := hBm_0 0 _ rfl
  have xm1 := hBm_0 1 _ rfl
  have xm2 := hBm_0 2 _ rfl
  have xm3 := hBm_0 3 _ rfl
  have xm4 := hBm_0 4 _ rfl
  have xm5 := hBm_0 5 _ rfl
  have xm6 := hBm_0 6 _ rfl
  have xm7 := hBm_0 7 _ rfl
  have xm8 := hBm_0 8 _ rfl
  have xm9 := hBm_0 9 _ rfl
  have fm := hFm_0
  have yres : w.heap.size + 1 + 1 < w0.heap.size := by omega
  have xres0 := hBres_0 0 _ rfl
  have xres1 := hBres_0 1 _ rfl
  have xres2 := hBres_0 2 _ rfl
  have xres3 := hBres_0 3 _ rfl
  have xres4 := hBres_0 4 _ rfl
  have xres5 := hBres_0 5 _ rfl
  have xres6 := hBres_0 6 _ rfl
  have xres7 := hBres_0 7 _ rfl
  have xres8 := hBres_0 8 _ rfl
  have xres9 := hBres_0 9 _ rfl
  have fres := hFres_0
  go_wp2_with fail
  refine (specIrOk_any b _ _ (hb1.ext he0) hbo).mono ?_
  rintro e w1 ⟨rfl, hy⟩
  simp only [q0]
  clear q0
  clear xb0 xb1 xb2 xb3 xb4 xb5 xb6 yb
  clear fb
  clear xm0 xm1 xm2 xm3 xm4 xm5 xm6 xm7 xm8 xm9 ym
  clear fm
  clear xres0 xres1 xres2 xres3 xres4 xres5 xres6 xres7 xres8 xres9 yres
  clear fres
  have hs1 := hy.size
  try simp at hs1
  have he1 : Ext w w1 := Ext.trans (Ext.hold he0) hy
  have hBb_1 : Bx w1 (w.heap.size) [.int .i64 b.pc, .int .i64 b.len, (.slice Ab1 b.ops.length cb1), .int .i64 b.fin, .int .i64 b.x, .int .i64 b.y, .int .i64 b.k] := hy.bx (Bx.hold hBb_0) (by first | omega | (simp; done) | (simp; omega))
  have hFb_1 : ∀ oo, w1.frozen? ⟨w.heap.size, oo, none⟩ = false := fun oo => (hy.frozen (by first | omega | (simp; done) | (simp; omega))).trans ((fz_hold hFb_0) oo)
  have hBm_1 : Bx w1 (w.heap.size + 1) [(.slice Am1 m.regs.length cm1), .int .i64 m.pc, (.slice Am2 m.mem.length cm2), .int .i64 m.save, .bool m.lets, .bool m.waits, .int .i64 m.halt, (.slice Am3 m.ins.length cm3), (.slice Am4 m.outs.length cm4), .int .i64 m.count] := hy.bx (Bx.hold hBm_0) (by first | omega | (simp; done) | (simp; omega))
  have hFm_1 : ∀ oo, w1.frozen? ⟨w.heap.size + 1, oo, none⟩ = false := fun oo => (hy.frozen (by first | omega | (simp; done) | (simp; omega))).trans ((fz_hold hFm_0) oo)
  have hBres_1 : Bx w1 (w.heap.size + 1 + 1) [.slice none 0 0, .int .i64 0, .slice none 0 0, .int .i64 0, .bool false, .bool false, .int .i64 0, .slice none 0 0, .slice none 0 0, .int .i64 0] := hy.bx (Bx.hold hBres_0) (by first | omega | (simp; done) | (simp; omega))
  have hFres_1 : ∀ oo, w1.frozen? ⟨w.heap.size + 1 + 1, oo, none⟩ = false := fun oo => (hy.frozen (by first | omega | (simp; done) | (simp; omega))).trans ((fz_hold hFres_0) oo)
  try clear hBb_0 hFb_0 hBm_0 hFm_0 hBres_0 hFres_0
  clear hy
  have yb : w.heap.size < w1.heap.size := by omega
  have xb0 := hBb_1 0 _ rfl
  have xb1 := hBb_1 1 _ rfl
  have xb2 := hBb_1 2 _ rfl
  have xb3 := hBb_1 3 _ rfl
  have xb4 := hBb_1 4 _ rfl
  have xb5 := hBb_1 5 _ rfl
  have xb6 := hBb_1 6 _ rfl
  have fb := hFb_1
  have ym : w.heap.size + 1 < w1.heap.size := by omega
  have xm0 := hBm_1 0 _ rfl
  have xm1 := hBm_1 1 _ rfl
  have xm2 := hBm_1 2 _ rfl
  have xm3 := hBm_1 3 _ rfl
  have xm4 := hBm_1 4 _ rfl
  have xm5 := hBm_1 5 _ rfl
  have xm6 := hBm_1 6 _ rfl
  have xm7 := hBm_1 7 _ rfl
  have xm8 := hBm_1 8 _ rfl
  have xm9 := hBm_1 9 _ rfl
  have fm := hFm_1
  have yres : w.heap.size + 1 + 1 < w1.heap.size := by omega
  have xres0 := hBres_1 0 _ rfl
  have xres1 := hBres_1 1 _ rfl
  have xres2 := hBres_1 2 _ rfl
  have xres3 := hBres_1 3 _ rfl
  have xres4 := hBres_1 4 _ rfl
  have xres5 := hBres_1 5 _ rfl
  have xres6 := hBres_1 6 _ rfl
  have xres7 := hBres_1 7 _ rfl
  have xres8 := hBres_1 8 _ rfl
  have xres9 := hBres_1 9 _ rfl
  have fres := hFres_1
  go_wp2_with fail
  refine (specMchOk_any m _ _ _ _ _ (hm1.ext he1) (hm2.ext he1) (hm3.ext he1) (hm4.ext he1)).mono ?_
  rintro e w2 ⟨rfl, hy⟩
  simp only [q1]
  clear q1
  clear xb0 xb1 xb2 xb3 xb4 xb5 xb6 yb
  clear fb
  clear xm0 xm1 xm2 xm3 xm4 xm5 xm6 xm7 xm8 xm9 ym
  clear fm
  clear xres0 xres1 xres2 xres3 xres4 xres5 xres6 xres7 xres8 xres9 yres
  clear fres
  have hs2 := hy.size
  try simp at hs2
  have he2 : Ext w w2 := Ext.trans (Ext.hold he1) hy
  have hBb_2 : Bx w2 (w.heap.size) [.int .i64 b.pc, .int .i64 b.len, (.slice Ab1 b.ops.length cb1), .int .i64 b.fin, .int .i64 b.x, .int .i64 b.y, .int .i64 b.k] := hy.bx (Bx.hold hBb_1) (by first | omega | (simp; done) | (simp; omega))
  have hFb_2 : ∀ oo, w2.frozen? ⟨w.heap.size, oo, none⟩ = false := fun oo => (hy.frozen (by first | omega | (simp; done) | (simp; omega))).trans ((fz_hold hFb_1) oo)
  have hBm_2 : Bx w2 (w.heap.size + 1) [(.slice Am1 m.regs.length cm1), .int .i64 m.pc, (.slice Am2 m.mem.length cm2), .int .i64 m.save, .bool m.lets, .bool m.waits, .int .i64 m.halt, (.slice Am3 m.ins.length cm3), (.slice Am4 m.outs.length cm4), .int .i64 m.count] := hy.bx (Bx.hold hBm_1) (by first | omega | (simp; done) | (simp; omega))
  have hFm_2 : ∀ oo, w2.frozen? ⟨w.heap.size + 1, oo, none⟩ = false := fun oo => (hy.frozen (by first | omega | (simp; done) | (simp; omega))).trans ((fz_hold hFm_1) oo)
  have hBres_2 : Bx w2 (w.heap.size + 1 + 1) [.slice none 0 0, .int .i64 0, .slice none 0 0, .int .i64 0, .bool false, .bool false, .int .i64 0, .slice none 0 0, .slice none 0 0, .int .i64 0] := hy.bx (Bx.hold hBres_1) (by first | omega | (simp; done) | (simp; omega))
  have hFres_2 : ∀ oo, w2.frozen? ⟨w.heap.size + 1 + 1, oo, none⟩ = false := fun oo => (hy.frozen (by first | omega | (simp; done) | (simp; omega))).trans ((fz_hold hFres_1) oo)
  try clear hBb_1 hFb_1 hBm_1 hFm_1 hBres_1 hFres_1
  clear hy
  have yb : w.heap.size < w2.heap.size := by omega
  have xb0 := hBb_2 0 _ rfl
  have xb1 := hBb_2 1 _ rfl
  have xb2 := hBb_2 2 _ rfl
  have xb3 := hBb_2 3 _ rfl
  have xb4 := hBb_2 4 _ rfl
  have xb5 := hBb_2 5 _ rfl
  have xb6 := hBb_2 6 _ rfl
  have fb := hFb_2
  have ym : w.heap.size + 1 < w2.heap.size := by omega
  have xm0 := hBm_2 0 _ rfl
  have xm1 := hBm_2 1 _ rfl
  have xm2 := hBm_2 2 _ rfl
  have xm3 := hBm_2 3 _ rfl
  have xm4 := hBm_2 4 _ rfl
  have xm5 := hBm_2 5 _ rfl
  have xm6 := hBm_2 6 _ rfl
  have xm7 := hBm_2 7 _ rfl
  have xm8 := hBm_2 8 _ rfl
  have xm9 := hBm_2 9 _ rfl
  have fm := hFm_2
  have yres : w.heap.size + 1 + 1 < w2.heap.size := by omega
  have xres0 := hBres_2 0 _ rfl
  have xres1 := hBres_2 1 _ rfl
  have xres2 := hBres_2 2 _ rfl
  have xres3 := hBres_2 3 _ rfl
  have xres4 := hBres_2 4 _ rfl
  have xres5 := hBres_2 5 _ rfl
  have xres6 := hBres_2 6 _ rfl
  have xres7 := hBres_2 7 _ rfl
  have xres8 := hBres_2 8 _ rfl
  have xres9 := hBres_2 9 _ rfl
  have fres := hFres_2
  go_wp2_with fail
  refine (l3CopyF_any m _ _ _ _ _ (hm1.ext he2) (hm2.ext he2) (hm3.ext he2) (hm4.ext he2) hn1 hn2 hn3 hn4).mono ?_
  rintro e w3 ⟨r1, r2, r3, r4, F1, F2, F3, Fs, xs, rfl, hr1, hr2, hr3, hA4, hfl, hfr, hoa, hcap, -, hy⟩
  obtain ⟨g1, o1, c1, g2, o2, c2, rfl, rfl, hM⟩ := Mach.fresh hr1 hr2 hr3 hA4 hfl hfr hoa hk.rl hk.ml hcap
  clear hr1 hr2 hr3 hA4 hfl hfr hoa hcap
  obtain ⟨A3, c3, rfl, hl3, hq3⟩ := hM.form3
  obtain ⟨A4, c4, rfl, hl4, hq4⟩ := hM.form4
  unfold maxLen at hq3 hq4
  clear xb0 xb1 xb2 xb3 xb4 xb5 xb6 yb
  clear fb
  clear xm0 xm1 xm2 xm3 xm4 xm5 xm6 xm7 xm8 xm9 ym
  clear fm
  clear xres0 xres1 xres2 xres3 xres4 xres5 xres6 xres7 xres8 xres9 yres
  clear fres
  have hs3 := hy.size
  try simp at hs3
  have he3 : Ext w w3 := Ext.trans (Ext.hold he2) hy
  have hBb_3 : Bx w3 (w.heap.size) [.int .i64 b.pc, .int .i64 b.len, (.slice Ab1 b.ops.length cb1), .int .i64 b.fin, .int .i64 b.x, .int .i64 b.y, .int .i64 b.k] := hy.bx (Bx.hold hBb_2) (by first | omega | (simp; done) | (simp; omega))
  have hFb_3 : ∀ oo, w3.frozen? ⟨w.heap.size, oo, none⟩ = false := fun oo => (hy.frozen (by first | omega | (simp; done) | (simp; omega))).trans ((fz_hold hFb_2) oo)
  have hBm_3 : Bx w3 (w.heap.size + 1) [(.slice Am1 m.regs.length cm1), .int .i64 m.pc, (.slice Am2 m.mem.length cm2), .int .i64 m.save, .bool m.lets, .bool m.waits, .int .i64 m.halt, (.slice Am3 m.ins.length cm3), (.slice Am4 m.outs.length cm4), .int .i64 m.count] := hy.bx (Bx.hold hBm_2) (by first | omega | (simp; done) | (simp; omega))
  have hFm_3 : ∀ oo, w3.frozen? ⟨w.heap.size + 1, oo, none⟩ = false := fun oo => (hy.frozen (by first | omega | (simp; done) | (simp; omega))).trans ((fz_hold hFm_2) oo)
  have hBres_3 : Bx w3 (w.heap.size + 1 + 1) [.slice none 0 0, .int .i64 0, .slice none 0 0, .int .i64 0, .bool false, .bool false, .int .i64 0, .slice none 0 0, .slice none 0 0, .int .i64 0] := hy.bx (Bx.hold hBres_2) (by first | omega | (simp; done) | (simp; omega))
  have hFres_3 : ∀ oo, w3.frozen? ⟨w.heap.size + 1 + 1, oo, none⟩ = false := fun oo => (hy.frozen (by first | omega | (simp; done) | (simp; omega))).trans ((fz_hold hFres_2) oo)
  try clear hBb_2 hFb_2 hBm_2 hFm_2 hBres_2 hFres_2
  clear hy
  have yb : w.heap.size < w3.heap.size := by omega
  have xb0 := hBb_3 0 _ rfl
  have xb1 := hBb_3 1 _ rfl
  have xb2 := hBb_3 2 _ rfl
  have xb3 := hBb_3 3 _ rfl
  have xb4 := hBb_3 4 _ rfl
  have xb5 := hBb_3 5 _ rfl
  have xb6 := hBb_3 6 _ rfl
  have fb := hFb_3
  have ym : w.heap.size + 1 < w3.heap.size := by omega
  have xm0 := hBm_3 0 _ rfl
  have xm1 := hBm_3 1 _ rfl
  have xm2 := hBm_3 2 _ rfl
  have xm3 := hBm_3 3 _ rfl
  have xm4 := hBm_3 4 _ rfl
  have xm5 := hBm_3 5 _ rfl
  have xm6 := hBm_3 6 _ rfl
  have xm7 := hBm_3 7 _ rfl
  have xm8 := hBm_3 8 _ rfl
  have xm9 := hBm_3 9 _ rfl
  have fm := hFm_3
  have yres : w.heap.size + 1 + 1 < w3.heap.size := by omega
  have xres0 := hBres_3 0 _ rfl
  have xres1 := hBres_3 1 _ rfl
  have xres2 := hBres_3 2 _ rfl
  have xres3 := hBres_3 3 _ rfl
  have xres4 := hBres_3 4 _ rfl
  have xres5 := hBres_3 5 _ rfl
  have xres6 := hBres_3 6 _ rfl
  have xres7 := hBres_3 7 _ rfl
  have xres8 := hBres_3 8 _ rfl
  have xres9 := hBres_3 9 _ rfl
  have fres := hFres_3
  go_upto_region 4 with fail
  clear xb0 xb1 xb2 xb3 xb4 xb5 xb6 yb
  clear fb
  clear xm0 xm1 xm2 xm3 xm4 xm5 xm6 xm7 xm8 xm9 ym
  clear fm
  clear xres0 xres1 xres2 xres3 xres4 xres5 xres6 xres7 xres8 xres9 yres
  clear fres
  have he4 : Ext w (w3.alloc (Obj.cells #[(.slice (some ⟨g1, o1, none⟩) 4 c1), .int .i64 m.pc, (.slice (some ⟨g2, o2, none⟩) 64 c2), .int .i64 m.save, .bool m.lets, .bool m.waits, .int .i64 m.halt, (.slice A3 m.ins.length c3), (.slice A4 m.outs.length c4), .int .i64 m.count] 46)) := Ext.hold he3
  have hs4 : w3.heap.size + 1 ≤ ((w3.alloc (Obj.cells #[(.slice (some ⟨g1, o1, none⟩) 4 c1), .int .i64 m.pc, (.slice (some ⟨g2, o2, none⟩) 64 c2), .int .i64 m.save, .bool m.lets, .bool m.waits, .int .i64 m.halt, (.slice A3 m.ins.length c3), (.slice A4 m.outs.length c4), .int .i64 m.count] 46))).heap.size := by simp
  have hBb_4 : Bx (w3.alloc (Obj.cells #[(.slice (some ⟨g1, o1, none⟩) 4 c1), .int .i64 m.pc, (.slice (some ⟨g2, o2, none⟩) 64 c2), .int .i64 m.save, .bool m.lets, .bool m.waits, .int .i64 m.halt, (.slice A3 m.ins.length c3), (.slice A4 m.outs.length c4), .int .i64 m.count] 46)) (w.heap.size) [.int .i64 b.pc, .int .i64 b.len, (.slice Ab1 b.ops.length cb1), .int .i64 b.fin, .int .i64 b.x, .int .i64 b.y, .int .i64 b.k] := Bx.hold hBb_3
  have hFb_4 : ∀ oo, (w3.alloc (Obj.cells #[(.slice (some ⟨g1, o1, none⟩) 4 c1), .int .i64 m.pc, (.slice (some ⟨g2, o2, none⟩) 64 c2), .int .i64 m.save, .bool m.lets, .bool m.waits, .int .i64 m.halt, (.slice A3 m.ins.length c3), (.slice A4 m.outs.length c4), .int .i64 m.count] 46)).frozen? ⟨w.heap.size, oo, none⟩ = false := fz_hold hFb_3
  have hBm_4 : Bx (w3.alloc (Obj.cells #[(.slice (some ⟨g1, o1, none⟩) 4 c1), .int .i64 m.pc, (.slice (some ⟨g2, o2, none⟩) 64 c2), .int .i64 m.save, .bool m.lets, .bool m.waits, .int .i64 m.halt, (.slice A3 m.ins.length c3), (.slice A4 m.outs.length c4), .int .i64 m.count] 46)) (w.heap.size + 1) [(.slice Am1 m.regs.length cm1), .int .i64 m.pc, (.slice Am2 m.mem.length cm2), .int .i64 m.save, .bool m.lets, .bool m.waits, .int .i64 m.halt, (.slice Am3 m.ins.length cm3), (.slice Am4 m.outs.length cm4), .int .i64 m.count] := Bx.hold hBm_3
  have hFm_4 : ∀ oo, (w3.alloc (Obj.cells #[(.slice (some ⟨g1, o1, none⟩) 4 c1), .int .i64 m.pc, (.slice (some ⟨g2, o2, none⟩) 64 c2), .int .i64 m.save, .bool m.lets, .bool m.waits, .int .i64 m.halt, (.slice A3 m.ins.length c3), (.slice A4 m.outs.length c4), .int .i64 m.count] 46)).frozen? ⟨w.heap.size + 1, oo, none⟩ = false := fz_hold hFm_3
  have hBres_4 : Bx (w3.alloc (Obj.cells #[(.slice (some ⟨g1, o1, none⟩) 4 c1), .int .i64 m.pc, (.slice (some ⟨g2, o2, none⟩) 64 c2), .int .i64 m.save, .bool m.lets, .bool m.waits, .int .i64 m.halt, (.slice A3 m.ins.length c3), (.slice A4 m.outs.length c4), .int .i64 m.count] 46)) (w.heap.size + 1 + 1) [.slice none 0 0, .int .i64 0, .slice none 0 0, .int .i64 0, .bool false, .bool false, .int .i64 0, .slice none 0 0, .slice none 0 0, .int .i64 0] := Bx.hold hBres_3
  have hFres_4 : ∀ oo, (w3.alloc (Obj.cells #[(.slice (some ⟨g1, o1, none⟩) 4 c1), .int .i64 m.pc, (.slice (some ⟨g2, o2, none⟩) 64 c2), .int .i64 m.save, .bool m.lets, .bool m.waits, .int .i64 m.halt, (.slice A3 m.ins.length c3), (.slice A4 m.outs.length c4), .int .i64 m.count] 46)).frozen? ⟨w.heap.size + 1 + 1, oo, none⟩ = false := fz_hold hFres_3
  have hBx_4 : Bx (w3.alloc (Obj.cells #[(.slice (some ⟨g1, o1, none⟩) 4 c1), .int .i64 m.pc, (.slice (some ⟨g2, o2, none⟩) 64 c2), .int .i64 m.save, .bool m.lets, .bool m.waits, .int .i64 m.halt, (.slice A3 m.ins.length c3), (.slice A4 m.outs.length c4), .int .i64 m.count] 46)) (w3.heap.size) [(.slice (some ⟨g1, o1, none⟩) 4 c1), .int .i64 m.pc, (.slice (some ⟨g2, o2, none⟩) 64 c2), .int .i64 m.save, .bool m.lets, .bool m.waits, .int .i64 m.halt, (.slice A3 m.ins.length c3), (.slice A4 m.outs.length c4), .int .i64 m.count] := Bx.new w3 #[(.slice (some ⟨g1, o1, none⟩) 4 c1), .int .i64 m.pc, (.slice (some ⟨g2, o2, none⟩) 64 c2), .int .i64 m.save, .bool m.lets, .bool m.waits, .int .i64 m.halt, (.slice A3 m.ins.length c3), (.slice A4 m.outs.length c4), .int .i64 m.count] 46
  have hFx_4 : ∀ oo, (w3.alloc (Obj.cells #[(.slice (some ⟨g1, o1, none⟩) 4 c1), .int .i64 m.pc, (.slice (some ⟨g2, o2, none⟩) 64 c2), .int .i64 m.save, .bool m.lets, .bool m.waits, .int .i64 m.halt, (.slice A3 m.ins.length c3), (.slice A4 m.outs.length c4), .int .i64 m.count] 46)).frozen? ⟨w3.heap.size, oo, none⟩ = false := fz_new w3 #[(.slice (some ⟨g1, o1, none⟩) 4 c1), .int .i64 m.pc, (.slice (some ⟨g2, o2, none⟩) 64 c2), .int .i64 m.save, .bool m.lets, .bool m.waits, .int .i64 m.halt, (.slice A3 m.ins.length c3), (.slice A4 m.outs.length c4), .int .i64 m.count] 46 rfl
  have hMx := hM.addXs (show Ext w3 (w3.alloc (Obj.cells #[(.slice (some ⟨g1, o1, none⟩) 4 c1), .int .i64 m.pc, (.slice (some ⟨g2, o2, none⟩) 64 c2), .int .i64 m.save, .bool m.lets, .bool m.waits, .int .i64 m.halt, (.slice A3 m.ins.length c3), (.slice A4 m.outs.length c4), .int .i64 m.count] 46)) from Ext.auto) [w3.heap.size] (by intro b hb; simp at hb; subst hb; exact ⟨Nat.le_refl _, by simp⟩)
  generalize (w3.alloc (Obj.cells #[(.slice (some ⟨g1, o1, none⟩) 4 c1), .int .i64 m.pc, (.slice (some ⟨g2, o2, none⟩) 64 c2), .int .i64 m.save, .bool m.lets, .bool m.waits, .int .i64 m.halt, (.slice A3 m.ins.length c3), (.slice A4 m.outs.length c4), .int .i64 m.count] 46)) = w4 at *
  try clear hBb_3 hFb_3 hBm_3 hFm_3 hBres_3 hFres_3
  clear hM
  have zw1 : IntKind.i64.wrap (1000000 - b.len) = 1000000 - b.len := by rw [IntKind.wrap_i64]; omega
  by_cases h0 : m.halt = 0
  rotate_left
  · 
    have c1_ : (m.halt == 0) = false := by simp [h0]
    have hg : irGoes b m = false := by unfold irGoes; rw [c1_]; rfl
    have HV := hide (show irRun b m = m by rw [HV0.out, hg]; rfl)
    have HW := hide (HW0.out.trans hg)
    clear hg
    have yb : w.heap.size < w4.heap.size := by omega
    have xb0 := hBb_4 0 _ rfl
    have xb1 := hBb_4 1 _ rfl
    have xb2 := hBb_4 2 _ rfl
    have xb3 := hBb_4 3 _ rfl
    have xb4 := hBb_4 4 _ rfl
    have xb5 := hBb_4 5 _ rfl
    have xb6 := hBb_4 6 _ rfl
    have fb := hFb_4
    have ym : w.heap.size + 1 < w4.heap.size := by omega
    have xm0 := hBm_4 0 _ rfl
    have xm1 := hBm_4 1 _ rfl
    have xm2 := hBm_4 2 _ rfl
    have xm3 := hBm_4 3 _ rfl
    have xm4 := hBm_4 4 _ rfl
    have xm5 := hBm_4 5 _ rfl
    have xm6 := hBm_4 6 _ rfl
    have xm7 := hBm_4 7 _ rfl
    have xm8 := hBm_4 8 _ rfl
    have xm9 := hBm_4 9 _ rfl
    have fm := hFm_4
    have yx : w3.heap.size < w4.heap.size := by omega
    have xx0 := hBx_4 0 _ rfl
    have xx1 := hBx_4 1 _ rfl
    have xx2 := hBx_4 2 _ rfl
    have xx3 := hBx_4 3 _ rfl
    have xx4 := hBx_4 4 _ rfl
    have xx5 := hBx_4 5 _ rfl
    have xx6 := hBx_4 6 _ rfl
    have xx7 := hBx_4 7 _ rfl
    have xx8 := hBx_4 8 _ rfl
    have xx9 := hBx_4 9 _ rfl
    have fx := hFx_4
    go_upto_region 5 with fail
    clear xb0 xb1 xb2 xb3 xb4 xb5 xb6 yb
    clear fb
    clear xm0 xm1 xm2 xm3 xm4 xm5 xm6 xm7 xm8 xm9 ym
    clear fm
    clear xx0 xx1 xx2 xx3 xx4 xx5 xx6 xx7 xx8 xx9 yx
    clear fx
    have yx : w3.heap.size < w4.heap.size := by omega
    have xx0 := hBx_4 0 _ rfl
    have xx1 := hBx_4 1 _ rfl
    have xx2 := hBx_4 2 _ rfl
    have xx3 := hBx_4 3 _ rfl
    have xx4 := hBx_4 4 _ rfl
    have xx5 := hBx_4 5 _ rfl
    have xx6 := hBx_4 6 _ rfl
    have xx7 := hBx_4 7 _ rfl
    have xx8 := hBx_4 8 _ rfl
    have xx9 := hBx_4 9 _ rfl
    have fx := hFx_4
    obtain ⟨F1, F2, F3, F4, hO1, hO2, hO3, hO4, hFr⟩ := Mach.out hMx (w0 := w2) (Nat.le_refl _)
    have yres : w.heap.size + 1 + 1 < w4.heap.size := by omega
    have xres0 := hBres_4 0 _ rfl
    have xres1 := hBres_4 1 _ rfl
    have xres2 := hBres_4 2 _ rfl
    have xres3 := hBres_4 3 _ rfl
    have xres4 := hBres_4 4 _ rfl
    have xres5 := hBres_4 5 _ rfl
    have xres6 := hBres_4 6 _ rfl
    have xres7 := hBres_4 7 _ rfl
    have xres8 := hBres_4 8 _ rfl
    have xres9 := hBres_4 9 _ rfl
    have fres := hFres_4
    go_wp2
    refine bodyPost_ret (v := .tuple #[.agg #[(.slice (some ⟨g1, o1, none⟩) 4 c1), .int .i64 m.pc, (.slice (some ⟨g2, o2, none⟩) 64 c2), .int .i64 m.save, .bool m.lets, .bool m.waits, .int .i64 m.halt, (.slice A3 m.ins.length c3), (.slice A4 m.outs.length c4), .int .i64 m.count], .bool false]) (by simp [results, Try.results23, go_sem, xres0, xres1, xres2, xres3, xres4, xres5, xres6, xres7, xres8, xres9]) rfl ?_
    unfold IrPost
    rw [HV.out, HW.out]
    refine ⟨(.slice (some ⟨g1, o1, none⟩) 4 c1), (.slice (some ⟨g2, o2, none⟩) 64 c2), (.slice A3 m.ins.length c3), (.slice A4 m.outs.length c4), F1, F2, F3, F4, rfl, ?_, ?_, ?_, ?_, ?_, Ext.hold he4⟩
    · exact OwnSl.stay hO1 (fun z hb => by
        have q := hFr.2 z (by simp [hb]); have q1 := q.1; have q2 := q.2
        repeat (first | rw [heap_set _ _ _ _ (by show _ ≠ z; omega)] | rw [heap_set _ _ _ _ (by simp; omega)]))
    · exact OwnSl.stay hO2 (fun z hb => by
        have q := hFr.2 z (by simp [hb]); have q1 := q.1; have q2 := q.2
        repeat (first | rw [heap_set _ _ _ _ (by show _ ≠ z; omega)] | rw [heap_set _ _ _ _ (by simp; omega)]))
    · exact OwnSl.stay hO3 (fun z hb => by
        have q := hFr.2 z (by simp [hb]); have q1 := q.1; have q2 := q.2
        repeat (first | rw [heap_set _ _ _ _ (by show _ ≠ z; omega)] | rw [heap_set _ _ _ _ (by simp; omega)]))
    · exact OwnSl.stay hO4 (fun z hb => by
        have q := hFr.2 z (by simp [hb]); have q1 := q.1; have q2 := q.2
        repeat (first | rw [heap_set _ _ _ _ (by show _ ≠ z; omega)] | rw [heap_set _ _ _ _ (by simp; omega)]))
    · exact hFr.mk1 (by first | omega | (simp; done) | (simp; omega)) (by first | omega | (simp; done) | (simp; omega))
  have c1_ : (m.halt == 0) = true := by simp [h0]
  have E0 := hide h0
  clear h0
  by_cases h1 : m.pc = b.pc
  rotate_left
  · 
    have c2_ : (m.pc == b.pc) = false := by simp [h1]
    have hg : irGoes b m = false := by unfold irGoes; rw [c2_]; simp
    have HV := hide (show irRun b m = m by rw [HV0.out, hg]; rfl)
    have HW := hide (HW0.out.trans hg)
    clear hg
    have yb : w.heap.size < w4.heap.size := by omega
    have xb0 := hBb_4 0 _ rfl
    have xb1 := hBb_4 1 _ rfl
    have xb2 := hBb_4 2 _ rfl
    have xb3 := hBb_4 3 _ rfl
    have xb4 := hBb_4 4 _ rfl
    have xb5 := hBb_4 5 _ rfl
    have xb6 := hBb_4 6 _ rfl
    have fb := hFb_4
    have ym : w.heap.size + 1 < w4.heap.size := by omega
    have xm0 := hBm_4 0 _ rfl
    have xm1 := hBm_4 1 _ rfl
    have xm2 := hBm_4 2 _ rfl
    have xm3 := hBm_4 3 _ rfl
    have xm4 := hBm_4 4 _ rfl
    have xm5 := hBm_4 5 _ rfl
    have xm6 := hBm_4 6 _ rfl
    have xm7 := hBm_4 7 _ rfl
    have xm8 := hBm_4 8 _ rfl
    have xm9 := hBm_4 9 _ rfl
    have fm := hFm_4
    have yx : w3.heap.size < w4.heap.size := by omega
    have xx0 := hBx_4 0 _ rfl
    have xx1 := hBx_4 1 _ rfl
    have xx2 := hBx_4 2 _ rfl
    have xx3 := hBx_4 3 _ rfl
    have xx4 := hBx_4 4 _ rfl
    have xx5 := hBx_4 5 _ rfl
    have xx6 := hBx_4 6 _ rfl
    have xx7 := hBx_4 7 _ rfl
    have xx8 := hBx_4 8 _ rfl
    have xx9 := hBx_4 9 _ rfl
    have fx := hFx_4
    go_upto_region 5 with fail
    clear xb0 xb1 xb2 xb3 xb4 xb5 xb6 yb
    clear fb
    clear xm0 xm1 xm2 xm3 xm4 xm5 xm6 xm7 xm8 xm9 ym
    clear fm
    clear xx0 xx1 xx2 xx3 xx4 xx5 xx6 xx7 xx8 xx9 yx
    clear fx
    have yx : w3.heap.size < w4.heap.size := by omega
    have xx0 := hBx_4 0 _ rfl
    have xx1 := hBx_4 1 _ rfl
    have xx2 := hBx_4 2 _ rfl
    have xx3 := hBx_4 3 _ rfl
    have xx4 := hBx_4 4 _ rfl
    have xx5 := hBx_4 5 _ rfl
    have xx6 := hBx_4 6 _ rfl
    have xx7 := hBx_4 7 _ rfl
    have xx8 := hBx_4 8 _ rfl
    have xx9 := hBx_4 9 _ rfl
    have fx := hFx_4
    obtain ⟨F1, F2, F3, F4, hO1, hO2, hO3, hO4, hFr⟩ := Mach.out hMx (w0 := w2) (Nat.le_refl _)
    have yres : w.heap.size + 1 + 1 < w4.heap.size := by omega
    have xres0 := hBres_4 0 _ rfl
    have xres1 := hBres_4 1 _ rfl
    have xres2 := hBres_4 2 _ rfl
    have xres3 := hBres_4 3 _ rfl
    have xres4 := hBres_4 4 _ rfl
    have xres5 := hBres_4 5 _ rfl
    have xres6 := hBres_4 6 _ rfl
    have xres7 := hBres_4 7 _ rfl
    have xres8 := hBres_4 8 _ rfl
    have xres9 := hBres_4 9 _ rfl
    have fres := hFres_4
    go_wp2
    refine bodyPost_ret (v := .tuple #[.agg #[(.slice (some ⟨g1, o1, none⟩) 4 c1), .int .i64 m.pc, (.slice (some ⟨g2, o2, none⟩) 64 c2), .int .i64 m.save, .bool m.lets, .bool m.waits, .int .i64 0, (.slice A3 m.ins.length c3), (.slice A4 m.outs.length c4), .int .i64 m.count], .bool false]) (by simp [results, Try.results23, go_sem, xres0, xres1, xres2, xres3, xres4, xres5, xres6, xres7, xres8, xres9]) rfl ?_
    unfold IrPost
    rw [HV.out, HW.out]
    refine ⟨(.slice (some ⟨g1, o1, none⟩) 4 c1), (.slice (some ⟨g2, o2, none⟩) 64 c2), (.slice A3 m.ins.length c3), (.slice A4 m.outs.length c4), F1, F2, F3, F4, by rw [E0.out], ?_, ?_, ?_, ?_, ?_, Ext.hold he4⟩
    · exact OwnSl.stay hO1 (fun z hb => by
        have q := hFr.2 z (by simp [hb]); have q1 := q.1; have q2 := q.2
        repeat (first | rw [heap_set _ _ _ _ (by show _ ≠ z; omega)] | rw [heap_set _ _ _ _ (by simp; omega)]))
    · exact OwnSl.stay hO2 (fun z hb => by
        have q := hFr.2 z (by simp [hb]); have q1 := q.1; have q2 := q.2
        repeat (first | rw [heap_set _ _ _ _ (by show _ ≠ z; omega)] | rw [heap_set _ _ _ _ (by simp; omega)]))
    · exact OwnSl.stay hO3 (fun z hb => by
        have q := hFr.2 z (by simp [hb]); have q1 := q.1; have q2 := q.2
        repeat (first | rw [heap_set _ _ _ _ (by show _ ≠ z; omega)] | rw [heap_set _ _ _ _ (by simp; omega)]))
    · exact OwnSl.stay hO4 (fun z hb => by
        have q := hFr.2 z (by simp [hb]); have q1 := q.1; have q2 := q.2
        repeat (first | rw [heap_set _ _ _ _ (by show _ ≠ z; omega)] | rw [heap_set _ _ _ _ (by simp; omega)]))
    · exact hFr.mk1 (by first | omega | (simp; done) | (simp; omega)) (by first | omega | (simp; done) | (simp; omega))
  have c2_ : (m.pc == b.pc) = true := by simp [h1]
  have E1 := hide h1
  clear h1
  by_cases h2 : m.count ≤ 1000000 - b.len
  rotate_left
  · 
    have c3_ : decide (1000000 - b.len < m.count) = true := decide_eq_true (by omega)
    have hg : irGoes b m = false := by unfold irGoes; rw [decide_eq_false h2]; simp
    have HV := hide (show irRun b m = m by rw [HV0.out, hg]; rfl)
    have HW := hide (HW0.out.trans hg)
    clear hg
    have yb : w.heap.size < w4.heap.size := by omega
    have xb0 := hBb_4 0 _ rfl
    have xb1 := hBb_4 1 _ rfl
    have xb2 := hBb_4 2 _ rfl
    have xb3 := hBb_4 3 _ rfl
    have xb4 := hBb_4 4 _ rfl
    have xb5 := hBb_4 5 _ rfl
    have xb6 := hBb_4 6 _ rfl
    have fb := hFb_4
    have ym : w.heap.size + 1 < w4.heap.size := by omega
    have xm0 := hBm_4 0 _ rfl
    have xm1 := hBm_4 1 _ rfl
    have xm2 := hBm_4 2 _ rfl
    have xm3 := hBm_4 3 _ rfl
    have xm4 := hBm_4 4 _ rfl
    have xm5 := hBm_4 5 _ rfl
    have xm6 := hBm_4 6 _ rfl
    have xm7 := hBm_4 7 _ rfl
    have xm8 := hBm_4 8 _ rfl
    have xm9 := hBm_4 9 _ rfl
    have fm := hFm_4
    have yx : w3.heap.size < w4.heap.size := by omega
    have xx0 := hBx_4 0 _ rfl
    have xx1 := hBx_4 1 _ rfl
    have xx2 := hBx_4 2 _ rfl
    have xx3 := hBx_4 3 _ rfl
    have xx4 := hBx_4 4 _ rfl
    have xx5 := hBx_4 5 _ rfl
    have xx6 := hBx_4 6 _ rfl
    have xx7 := hBx_4 7 _ rfl
    have xx8 := hBx_4 8 _ rfl
    have xx9 := hBx_4 9 _ rfl
    have fx := hFx_4
    go_upto_region 5 with fail
    clear xb0 xb1 xb2 xb3 xb4 xb5 xb6 yb
    clear fb
    clear xm0 xm1 xm2 xm3 xm4 xm5 xm6 xm7 xm8 xm9 ym
    clear fm
    clear xx0 xx1 xx2 xx3 xx4 xx5 xx6 xx7 xx8 xx9 yx
    clear fx
    have yx : w3.heap.size < w4.heap.size := by omega
    have xx0 := hBx_4 0 _ rfl
    have xx1 := hBx_4 1 _ rfl
    have xx2 := hBx_4 2 _ rfl
    have xx3 := hBx_4 3 _ rfl
    have xx4 := hBx_4 4 _ rfl
    have xx5 := hBx_4 5 _ rfl
    have xx6 := hBx_4 6 _ rfl
    have xx7 := hBx_4 7 _ rfl
    have xx8 := hBx_4 8 _ rfl
    have xx9 := hBx_4 9 _ rfl
    have fx := hFx_4
    obtain ⟨F1, F2, F3, F4, hO1, hO2, hO3, hO4, hFr⟩ := Mach.out hMx (w0 := w2) (Nat.le_refl _)
    have yres : w.heap.size + 1 + 1 < w4.heap.size := by omega
    have xres0 := hBres_4 0 _ rfl
    have xres1 := hBres_4 1 _ rfl
    have xres2 := hBres_4 2 _ rfl
    have xres3 := hBres_4 3 _ rfl
    have xres4 := hBres_4 4 _ rfl
    have xres5 := hBres_4 5 _ rfl
    have xres6 := hBres_4 6 _ rfl
    have xres7 := hBres_4 7 _ rfl
    have xres8 := hBres_4 8 _ rfl
    have xres9 := hBres_4 9 _ rfl
    have fres := hFres_4
    go_wp2
    refine bodyPost_ret (v := .tuple #[.agg #[(.slice (some ⟨g1, o1, none⟩) 4 c1), .int .i64 b.pc, (.slice (some ⟨g2, o2, none⟩) 64 c2), .int .i64 m.save, .bool m.lets, .bool m.waits, .int .i64 0, (.slice A3 m.ins.length c3), (.slice A4 m.outs.length c4), .int .i64 m.count], .bool false]) (by simp [results, Try.results23, go_sem, xres0, xres1, xres2, xres3, xres4, xres5, xres6, xres7, xres8, xres9]) rfl ?_
    unfold IrPost
    rw [HV.out, HW.out]
    refine ⟨(.slice (some ⟨g1, o1, none⟩) 4 c1), (.slice (some ⟨g2, o2, none⟩) 64 c2), (.slice A3 m.ins.length c3), (.slice A4 m.outs.length c4), F1, F2, F3, F4, by rw [E0.out, E1.out], ?_, ?_, ?_, ?_, ?_, Ext.hold he4⟩
    · exact OwnSl.stay hO1 (fun z hb => by
        have q := hFr.2 z (by simp [hb]); have q1 := q.1; have q2 := q.2
        repeat (first | rw [heap_set _ _ _ _ (by show _ ≠ z; omega)] | rw [heap_set _ _ _ _ (by simp; omega)]))
    · exact OwnSl.stay hO2 (fun z hb => by
        have q := hFr.2 z (by simp [hb]); have q1 := q.1; have q2 := q.2
        repeat (first | rw [heap_set _ _ _ _ (by show _ ≠ z; omega)] | rw [heap_set _ _ _ _ (by simp; omega)]))
    · exact OwnSl.stay hO3 (fun z hb => by
        have q := hFr.2 z (by simp [hb]); have q1 := q.1; have q2 := q.2
        repeat (first | rw [heap_set _ _ _ _ (by show _ ≠ z; omega)] | rw [heap_set _ _ _ _ (by simp; omega)]))
    · exact OwnSl.stay hO4 (fun z hb => by
        have q := hFr.2 z (by simp [hb]); have q1 := q.1; have q2 := q.2
        repeat (first | rw [heap_set _ _ _ _ (by show _ ≠ z; omega)] | rw [heap_set _ _ _ _ (by simp; omega)]))
    · exact hFr.mk1 (by first | omega | (simp; done) | (simp; omega)) (by first | omega | (simp; done) | (simp; omega))
  have c3_ : decide (1000000 - b.len < m.count) = false := decide_eq_false (by omega)
  have hg : irGoes b m = true := by unfold irGoes; rw [c1_, c2_, decide_eq_true h2]; rfl
  have HV := hide (show irRun b m = rEnd b (rTo b m b.ops.length) by rw [HV0.out, hg]; rfl)
  have HW := hide (HW0.out.trans hg)
  clear hg
  have yb : w.heap.size < w4.heap.size := by omega
  have xb0 := hBb_4 0 _ rfl
  have xb1 := hBb_4 1 _ rfl
  have xb2 := hBb_4 2 _ rfl
  have xb3 := hBb_4 3 _ rfl
  have xb4 := hBb_4 4 _ rfl
  have xb5 := hBb_4 5 _ rfl
  have xb6 := hBb_4 6 _ rfl
  have fb := hFb_4
  have ym : w.heap.size + 1 < w4.heap.size := by omega
  have xm0 := hBm_4 0 _ rfl
  have xm1 := hBm_4 1 _ rfl
  have xm2 := hBm_4 2 _ rfl
  have xm3 := hBm_4 3 _ rfl
  have xm4 := hBm_4 4 _ rfl
  have xm5 := hBm_4 5 _ rfl
  have xm6 := hBm_4 6 _ rfl
  have xm7 := hBm_4 7 _ rfl
  have xm8 := hBm_4 8 _ rfl
  have xm9 := hBm_4 9 _ rfl
  have fm := hFm_4
  have yx : w3.heap.size < w4.heap.size := by omega
  have xx0 := hBx_4 0 _ rfl
  have xx1 := hBx_4 1 _ rfl
  have xx2 := hBx_4 2 _ rfl
  have xx3 := hBx_4 3 _ rfl
  have xx4 := hBx_4 4 _ rfl
  have xx5 := hBx_4 5 _ rfl
  have xx6 := hBx_4 6 _ rfl
  have xx7 := hBx_4 7 _ rfl
  have xx8 := hBx_4 8 _ rfl
  have xx9 := hBx_4 9 _ rfl
  have fx := hFx_4
  go_upto_region 6 with fail
  clear c1_ c2_ c3_
  clear xb0 xb1 xb2 xb3 xb4 xb5 xb6 yb
  clear fb
  clear xm0 xm1 xm2 xm3 xm4 xm5 xm6 xm7 xm8 xm9 ym
  clear fm
  clear xx0 xx1 xx2 xx3 xx4 xx5 xx6 xx7 xx8 xx9 yx
  clear fx
  go_upto_region 7 with fail
  have he5 : Ext w (w4.alloc (.cells #[] 3)) := Ext.hold he4
  have hs5 : w4.heap.size + 1 ≤ ((w4.alloc (.cells #[] 3))).heap.size := by simp
  have hBb_5 : Bx (w4.alloc (.cells #[] 3)) (w.heap.size) [.int .i64 b.pc, .int .i64 b.len, (.slice Ab1 b.ops.length cb1), .int .i64 b.fin, .int .i64 b.x, .int .i64 b.y, .int .i64 b.k] := Bx.hold hBb_4
  have hFb_5 : ∀ oo, (w4.alloc (.cells #[] 3)).frozen? ⟨w.heap.size, oo, none⟩ = false := fz_hold hFb_4
  have hBm_5 : Bx (w4.alloc (.cells #[] 3)) (w.heap.size + 1) [(.slice Am1 m.regs.length cm1), .int .i64 m.pc, (.slice Am2 m.mem.length cm2), .int .i64 m.save, .bool m.lets, .bool m.waits, .int .i64 m.halt, (.slice Am3 m.ins.length cm3), (.slice Am4 m.outs.length cm4), .int .i64 m.count] := Bx.hold hBm_4
  have hFm_5 : ∀ oo, (w4.alloc (.cells #[] 3)).frozen? ⟨w.heap.size + 1, oo, none⟩ = false := fz_hold hFm_4
  have hBres_5 : Bx (w4.alloc (.cells #[] 3)) (w.heap.size + 1 + 1) [.slice none 0 0, .int .i64 0, .slice none 0 0, .int .i64 0, .bool false, .bool false, .int .i64 0, .slice none 0 0, .slice none 0 0, .int .i64 0] := Bx.hold hBres_4
  have hFres_5 : ∀ oo, (w4.alloc (.cells #[] 3)).frozen? ⟨w.heap.size + 1 + 1, oo, none⟩ = false := fz_hold hFres_4
  have hBx_5 : Bx (w4.alloc (.cells #[] 3)) (w3.heap.size) [(.slice (some ⟨g1, o1, none⟩) 4 c1), .int .i64 m.pc, (.slice (some ⟨g2, o2, none⟩) 64 c2), .int .i64 m.save, .bool m.lets, .bool m.waits, .int .i64 m.halt, (.slice A3 m.ins.length c3), (.slice A4 m.outs.length c4), .int .i64 m.count] := Bx.hold hBx_4
  have hFx_5 : ∀ oo, (w4.alloc (.cells #[] 3)).frozen? ⟨w3.heap.size, oo, none⟩ = false := fz_hold hFx_4
  have hMy := hMx.addXs (show Ext w4 (w4.alloc (.cells #[] 3)) from Ext.auto) [w4.heap.size] (by intro b hb; simp at hb; subst hb; exact ⟨Nat.le_refl _, by simp⟩)
  have hG := (Gro.empty w4 3 : Gro _ _ _ _ ([] : List Int))
  generalize (w4.alloc (.cells #[] 3)) = w5 at *
  try clear hBb_4 hFb_4 hBm_4 hFm_4 hBres_4 hFres_4 hBx_4 hFx_4
  clear hMx
  go_wp2
  go_loopw [7, 8] (fun vv kk wz => ∃ (k : Nat) (y : RSt) (B3 B4 : Option Addr) (d3 d4 : Nat), kk = .int .i64 (k : Int) ∧ k ≤ b.ops.length ∧ Hid (rTo b m k = y) ∧ Hid (y.left = false) ∧ Gro 3 w4.heap.size wz vv y.vals ∧ Mach 3 w2.heap.size (vv.ownBlock.toList ++ [w3.heap.size]) wz g1 o1 c1 g2 o2 c2 (.slice B3 y.m.ins.length d3) (.slice B4 y.m.outs.length d4) y.m ∧ Ext w wz ∧ w5.heap.size ≤ wz.heap.size ∧ Bx wz (w3.heap.size) [(.slice (some ⟨g1, o1, none⟩) 4 c1), .int .i64 y.m.pc, (.slice (some ⟨g2, o2, none⟩) 64 c2), .int .i64 y.m.save, .bool y.m.lets, .bool y.m.waits, .int .i64 y.m.halt, (.slice B3 y.m.ins.length d3), (.slice B4 y.m.outs.length d4), .int .i64 y.m.count] ∧ (∀ oo, wz.frozen? ⟨w3.heap.size, oo, none⟩ = false) ∧ Bx wz (w.heap.size) [.int .i64 b.pc, .int .i64 b.len, (.slice Ab1 b.ops.length cb1), .int .i64 b.fin, .int .i64 b.x, .int .i64 b.y, .int .i64 b.k] ∧ (∀ oo, wz.frozen? ⟨w.heap.size, oo, none⟩ = false) ∧ Bx wz (w.heap.size + 1 + 1) [.slice none 0 0, .int .i64 0, .slice none 0 0, .int .i64 0, .bool false, .bool false, .int .i64 0, .slice none 0 0, .slice none 0 0, .int .i64 0] ∧ (∀ oo, wz.frozen? ⟨w.heap.size + 1 + 1, oo, none⟩ = false)) (fun _ kk _ => b.ops.length - (intOf kk).toNat)
  case atStart => exact ⟨0, ⟨m, [], false⟩, A3, A4, c3, c4, rfl, by omega, hide rfl, hide rfl, hG, by simpa [Value.ownBlock] using hMy, he5, Nat.le_refl _, hBx_5, hFx_5, hBb_5, hFb_5, hBres_5, hFres_5⟩
  case round =>
    obtain ⟨w6, hwr⟩ : ∃ w6 : World, w6 = wr := ⟨_, rfl⟩
    subst hwr
    clear hMy hG hBx_5 hFx_5 hBb_5 hFb_5 hBres_5 hFres_5
    obtain ⟨k, y, B3, B4, d3, d4, rfl, hk1, HY, HL, hG, hM, he6, hs6, hBx_6, hFx_6, hBb_6, hFb_6, hBres_6, hFres_6⟩ := hrel
    have hR := hide (show RunAt m y by have := RunAt.to hk hbk.out k hk1 (by rw [HY.out]; exact HL.out); rwa [HY.out] at this)
    have hyl := hide (show y.vals.length = k by have := rTo_vals b m k hk1 (by rw [HY.out]; exact HL.out); rwa [HY.out] at this)
    obtain ⟨A7, c7, rfl, hl7, hm7⟩ := hG.form
    by_cases hlt : k < b.ops.length
    · 
      have q1 : decide ((k : Int) < (b.ops.length : Int)) = true := decide_eq_true (by omega)
      have HO := hide (show rTo b m (k + 1) = rOp b y b.ops[k] by rw [rTo_succ b m k hlt, HY.out])
      have hop := ok_ops hbk.out k hlt
      obtain ⟨bb, off, rfl, hbo, hk0, e0, e1, e2, e3, e4⟩ := at_IrOp (hb1.ext he6) hlt
      generalize hgo : b.ops[k] = o at *
      clear hgo
      have z0 : (0 : Int) ≤ (k : Int) := by omega
      have z1 : (k : Int) < (b.ops.length : Int) := by omega
      have hfoot : ∀ x, x ∈ mfoot g1 g2 (Value.slice B4 y.m.outs.length d4) → w2.heap.size ≤ x ∧ x < w6.heap.size := hM.lt.2.2.2.2
      have yb : w.heap.size < w6.heap.size := by omega
      have xb0 := hBb_6 0 _ rfl
      have xb1 := hBb_6 1 _ rfl
      have xb2 := hBb_6 2 _ rfl
      have xb3 := hBb_6 3 _ rfl
      have xb4 := hBb_6 4 _ rfl
      have xb5 := hBb_6 5 _ rfl
      have xb6 := hBb_6 6 _ rfl
      have fb := hFb_6
      go_upto_region 11 with fail
      clear xb0 xb1 xb2 xb3 xb4 xb5 xb6 yb
      clear fb
      clear z0 z1 e0 e1 e2 e3 e4
      have he7 : Ext w (w6.alloc (Obj.cells #[.int .i64 o.kind, .int .i64 o.x, .int .i64 o.y, .int .i64 o.k, .int .i64 o.at_] 58)) := Ext.hold he6
      have hs7 : w6.heap.size + 1 ≤ ((w6.alloc (Obj.cells #[.int .i64 o.kind, .int .i64 o.x, .int .i64 o.y, .int .i64 o.k, .int .i64 o.at_] 58))).heap.size := by simp
      have hBx_7 : Bx (w6.alloc (Obj.cells #[.int .i64 o.kind, .int .i64 o.x, .int .i64 o.y, .int .i64 o.k, .int .i64 o.at_] 58)) (w3.heap.size) [(.slice (some ⟨g1, o1, none⟩) 4 c1), .int .i64 y.m.pc, (.slice (some ⟨g2, o2, none⟩) 64 c2), .int .i64 y.m.save, .bool y.m.lets, .bool y.m.waits, .int .i64 y.m.halt, (.slice B3 y.m.ins.length d3), (.slice B4 y.m.outs.length d4), .int .i64 y.m.count] := Bx.hold hBx_6
      have hFx_7 : ∀ oo, (w6.alloc (Obj.cells #[.int .i64 o.kind, .int .i64 o.x, .int .i64 o.y, .int .i64 o.k, .int .i64 o.at_] 58)).frozen? ⟨w3.heap.size, oo, none⟩ = false := fz_hold hFx_6
      have hBb_7 : Bx (w6.alloc (Obj.cells #[.int .i64 o.kind, .int .i64 o.x, .int .i64 o.y, .int .i64 o.k, .int .i64 o.at_] 58)) (w.heap.size) [.int .i64 b.pc, .int .i64 b.len, (.slice (some ⟨bb, off, none⟩) b.ops.length cb1), .int .i64 b.fin, .int .i64 b.x, .int .i64 b.y, .int .i64 b.k] := Bx.hold hBb_6
      have hFb_7 : ∀ oo, (w6.alloc (Obj.cells #[.int .i64 o.kind, .int .i64 o.x, .int .i64 o.y, .int .i64 o.k, .int .i64 o.at_] 58)).frozen? ⟨w.heap.size, oo, none⟩ = false := fz_hold hFb_6
      have hBres_7 : Bx (w6.alloc (Obj.cells #[.int .i64 o.kind, .int .i64 o.x, .int .i64 o.y, .int .i64 o.k, .int .i64 o.at_] 58)) (w.heap.size + 1 + 1) [.slice none 0 0, .int .i64 0, .slice none 0 0, .int .i64 0, .bool false, .bool false, .int .i64 0, .slice none 0 0, .slice none 0 0, .int .i64 0] := Bx.hold hBres_6
      have hFres_7 : ∀ oo, (w6.alloc (Obj.cells #[.int .i64 o.kind, .int .i64 o.x, .int .i64 o.y, .int .i64 o.k, .int .i64 o.at_] 58)).frozen? ⟨w.heap.size + 1 + 1, oo, none⟩ = false := fz_hold hFres_6
      have hBo_7 : Bx (w6.alloc (Obj.cells #[.int .i64 o.kind, .int .i64 o.x, .int .i64 o.y, .int .i64 o.k, .int .i64 o.at_] 58)) (w6.heap.size) [.int .i64 o.kind, .int .i64 o.x, .int .i64 o.y, .int .i64 o.k, .int .i64 o.at_] := Bx.new w6 #[.int .i64 o.kind, .int .i64 o.x, .int .i64 o.y, .int .i64 o.k, .int .i64 o.at_] 58
      have hFo_7 : ∀ oo, (w6.alloc (Obj.cells #[.int .i64 o.kind, .int .i64 o.x, .int .i64 o.y, .int .i64 o.k, .int .i64 o.at_] 58)).frozen? ⟨w6.heap.size, oo, none⟩ = false := fz_new w6 #[.int .i64 o.kind, .int .i64 o.x, .int .i64 o.y, .int .i64 o.k, .int .i64 o.at_] 58 rfl
      have hM9 := hM.alloc (Obj.cells #[.int .i64 o.kind, .int .i64 o.x, .int .i64 o.y, .int .i64 o.k, .int .i64 o.at_] 58)
      have hG9 := hG.alloc (Obj.cells #[.int .i64 o.kind, .int .i64 o.x, .int .i64 o.y, .int .i64 o.k, .int .i64 o.at_] 58)
      generalize (w6.alloc (Obj.cells #[.int .i64 o.kind, .int .i64 o.x, .int .i64 o.y, .int .i64 o.k, .int .i64 o.at_] 58)) = w7 at *
      try clear hBx_6 hFx_6 hBb_6 hFb_6 hBres_6 hFres_6
      replace hM := hM9
      replace hG := hG9
      clear hM9 hG9
      have hkd := op_kind hop
      have hnX : w3.heap.size ∉ mfoot g1 g2 (Value.slice B4 y.m.outs.length d4) := (hM.apart (by simp)).2.2
      have hnV : ∀ q, (Value.ownBlock (.slice A7 y.vals.length c7)) = some q → q ∉ mfoot g1 g2 (Value.slice B4 y.m.outs.length d4) := fun q hq => (hM.apart (List.mem_append.2 (.inl (by simp [hq])))).2.2
      have hneX : ∀ q, (Value.ownBlock (.slice A7 y.vals.length c7)) = some q → q ≠ w3.heap.size := fun q hq e => by have := (hG.lt q hq).1; omega
      have hlo1 := hM.lt.2.2.1
      have hlo2 := hM.lt.2.2.2.1
      have hlt1 := hM.lt.1
      have hlt2 := hM.lt.2.1
      have yo : w6.heap.size < w7.heap.size := by omega
      have xo0 := hBo_7 0 _ rfl
      have xo1 := hBo_7 1 _ rfl
      have xo2 := hBo_7 2 _ rfl
      have xo3 := hBo_7 3 _ rfl
      have xo4 := hBo_7 4 _ rfl
      have fo := hFo_7
      go_upto_block 2 with fail
      clear xo0 xo1 xo2 xo3 xo4 yo
      clear fo
      go_cut [10] (fun v10 wx => ∃ (n : Int) (M : MchMach) (B5 B6 : Option Addr) (d5 d6 : Nat), v10 = .int .i64 n ∧ Hid (rOp b y o = ⟨M, y.vals ++ [n], false⟩) ∧ Fits n ∧ Gro 3 w4.heap.size wx (.slice A7 y.vals.length c7) y.vals ∧ Mach 3 w2.heap.size ((Value.ownBlock (.slice A7 y.vals.length c7)).toList ++ [w3.heap.size]) wx g1 o1 c1 g2 o2 c2 (.slice B5 M.ins.length d5) (.slice B6 M.outs.length d6) M ∧ Ext w wx ∧ w7.heap.size ≤ wx.heap.size ∧ Bx wx (w3.heap.size) [(.slice (some ⟨g1, o1, none⟩) 4 c1), .int .i64 M.pc, (.slice (some ⟨g2, o2, none⟩) 64 c2), .int .i64 M.save, .bool M.lets, .bool M.waits, .int .i64 M.halt, (.slice B5 M.ins.length d5), (.slice B6 M.outs.length d6), .int .i64 M.count] ∧ (∀ oo, wx.frozen? ⟨w3.heap.size, oo, none⟩ = false) ∧ Bx wx (w.heap.size) [.int .i64 b.pc, .int .i64 b.len, (.slice (some ⟨bb, off, none⟩) b.ops.length cb1), .int .i64 b.fin, .int .i64 b.x, .int .i64 b.y, .int .i64 b.k] ∧ (∀ oo, wx.frozen? ⟨w.heap.size, oo, none⟩ = false) ∧ Bx wx (w.heap.size + 1 + 1) [.slice none 0 0, .int .i64 0, .slice none 0 0, .int .i64 0, .bool false, .bool false, .int .i64 0, .slice none 0 0, .slice none 0 0, .int .i64 0] ∧ (∀ oo, wx.frozen? ⟨w.heap.size + 1 + 1, oo, none⟩ = false))
      · 
        by_cases h8 : o.kind = 8
        · 
          have q8 : (o.kind == 8) = true := by simp [h8]
          have hx := op_x hop (by rw [h8]; rfl)
          have hr := op_r hop (.inr h8)
          obtain ⟨X, hX⟩ := Int.eq_ofNat_of_zero_le hx.1
          obtain ⟨K, hK⟩ := Int.eq_ofNat_of_zero_le hr.1
          have hXl : X < y.vals.length := by have := hyl.out; omega
          have hKl : K < 4 := by omega
          obtain ⟨g7, rfl, hg7, -, -, -, hrow⟩ := hG.row (by omega)
          have rX := hrow.int0 hXl
          have yg7 := hrow.lt
          have HGX := hide (show gI y.vals o.x = y.vals[X] by rw [hX]; exact gI_nat _ X hXl)
          have hwX := hR.out.words _ (List.getElem_mem hXl)
          have x0 : 0 ≤ o.x := hx.1
          have x1 : o.x < (y.vals.length : Int) := by omega
          have x2 : o.x.toNat = X := by omega
          have k0 : 0 ≤ o.k := hr.1
          have k1 : o.k < 4 := by omega
          have k2 : o.k.toNat = K := by omega
          have hfz1 := hM.fz1
          have rK := hM.regAt hKl
          have HR8 := hide (show rOp b y o = ⟨{ y.m with regs := y.m.regs.set K y.vals[X] }, y.vals ++ [0], false⟩ by rw [rOp_set HL.out h8, HGX.out]; unfold MchMach.setR; rw [k2])
          have hne1 : g7 ≠ g1 := fun e => hnV g7 rfl (by rw [e]; simp [mfoot])
          have hneg : ∀ q, (Value.ownBlock (.slice (some ⟨g7, 0, none⟩) y.vals.length c7)) = some q → q ≠ g1 := fun q hq e => hnV q hq (by rw [e]; simp [mfoot])
          have hnX1 : w3.heap.size ≠ g1 := fun e => hnX (by rw [e]; simp [mfoot])
          clear hX hK hx hr h8
          have yx : w3.heap.size < w7.heap.size := by omega
          have xx0 := hBx_7 0 _ rfl
          have xx1 := hBx_7 1 _ rfl
          have xx2 := hBx_7 2 _ rfl
          have xx3 := hBx_7 3 _ rfl
          have xx4 := hBx_7 4 _ rfl
          have xx5 := hBx_7 5 _ rfl
          have xx6 := hBx_7 6 _ rfl
          have xx7 := hBx_7 7 _ rfl
          have xx8 := hBx_7 8 _ rfl
          have xx9 := hBx_7 9 _ rfl
          have fx := hFx_7
          have yo : w6.heap.size < w7.heap.size := by omega
          have xo0 := hBo_7 0 _ rfl
          have xo1 := hBo_7 1 _ rfl
          have xo2 := hBo_7 2 _ rfl
          have xo3 := hBo_7 3 _ rfl
          have xo4 := hBo_7 4 _ rfl
          have fo := hFo_7
          go_upto_region 15 with fail
          have hS : ∀ w', Ext w7 w' → ∀ bb oo, bb < w7.heap.size → w'.cell? ⟨bb, oo, none⟩ = w7.cell? ⟨bb, oo, none⟩ := fun w' hx bb oo hb => hx.cell hb
          refine wp_region_plan (fun w' => Ext w7 w') 9 (.float 0 (.float 1 (.float 2 (.float 3 (.float 4 (.float 5 (.float 6 (.float 7 (.float 8 (.tail 9)))))))))) (by kernel_rfl) (by kernel_rfl) (Ext.refl _).drew ?_
          iterate 9 ((refine Plan.float_step (v := ?_) rfl (by rfl) (fun _ _ _ h => h) (fun w' hSw => ?_) ?_; rotate_left; · (go_simp; try with_reducible rfl)); (try simp only [Act.put, List.setIfInBounds_toArray, List.set_cons_zero, List.set_cons_succ]))
          refine Plan.tail_step ?_
          simp only [List.drop_succ_cons, List.drop_zero]
          clear hS
          go_wp2_with fail
          go_meet
          exact ⟨0, { y.m with regs := y.m.regs.set K y.vals[X] }, B3, B4, d3, d4, rfl, HR8, by unfold Fits; omega, (hG.set (p := ⟨g1, o1 + K, none⟩) hneg _).drew, (hM.setReg hKl (n := y.vals[X]) (by unfold Fits; omega)).drew, Ext.hold he7, by simp, Bx.hold hBx_7, fz_hold hFx_7, Bx.hold hBb_7, fz_hold hFb_7, Bx.hold hBres_7, fz_hold hFres_7⟩
        have q8 : (o.kind == 8) = false := by simp [h8]
        by_cases h4 : 4 ≤ o.kind
        · 
          have hk4 : o.kind = 4 ∨ o.kind = 5 ∨ o.kind = 6 ∨ o.kind = 7 := by omega
          have hx0 := (op_x0 hop).1
          have hy0 := (op_y0 hop).1
          have hat := op_at hop hk4
          have hwx := gI_word hR.out.words o.x
          have hwy := gI_word hR.out.words o.y
          have houts := hR.out.outs
          have hyl48 : y.vals.length ≤ 48 := by have := hyl.out; omega
          have hn44 : y.m.outs.length ≤ 4194304 := by omega
          obtain ⟨⟨M, n, lf⟩, hEV⟩ : ∃ p : MchMach × Int × Bool, p = rEvent b y.m o (gI y.vals o.x) (gI y.vals o.y) := ⟨_, rfl⟩
          have HEV := hide hEV
          have HR4 := hide (show rOp b y o = ⟨M, y.vals ++ [n], lf⟩ by rw [rOp_event HL.out (by omega), ← hEV])
          clear hEV houts
          have HK4 := hide hk4
          have hok := hR.out.ok
          go_upto_region 16 with fail
          go_cut [82] (fun v wx => v = .bool (o.kind == 4) ∧ w7 = wx)
          · go_wp2_with fail
            go_meet
            exact ⟨rfl, rfl⟩
          obtain ⟨rfl, hwc⟩ := hcut
          subst hwc
          go_upto_if 82 with fail
          go_cut [82] (fun v wx => v = .bool true ∧ w7 = wx)
          · 
            rcases hk4 with e | e | e | e
            · 
              have q4 : (o.kind == 4) = true := by rw [e]; rfl
              have q5 : (o.kind == 5) = false := by rw [e]; rfl
              have q6 : (o.kind == 6) = false := by rw [e]; rfl
              have q7 : (o.kind == 7) = false := by rw [e]; rfl
              clear e
              (try simp only [q4])
              go_wp2_with fail
              go_meet
              exact ⟨rfl, rfl⟩
            · 
              have q4 : (o.kind == 4) = false := by rw [e]; rfl
              have q5 : (o.kind == 5) = true := by rw [e]; rfl
              have q6 : (o.kind == 6) = false := by rw [e]; rfl
              have q7 : (o.kind == 7) = false := by rw [e]; rfl
              clear e
              (try simp only [q5])
              go_wp2_with fail
              go_meet
              exact ⟨rfl, rfl⟩
            · 
              have q4 : (o.kind == 4) = false := by rw [e]; rfl
              have q5 : (o.kind == 5) = false := by rw [e]; rfl
              have q6 : (o.kind == 6) = true := by rw [e]; rfl
              have q7 : (o.kind == 7) = false := by rw [e]; rfl
              clear e
              (try simp only [q6])
              go_wp2_with fail
              go_meet
              exact ⟨rfl, rfl⟩
            · 
              have q4 : (o.kind == 4) = false := by rw [e]; rfl
              have q5 : (o.kind == 5) = false := by rw [e]; rfl
              have q6 : (o.kind == 6) = false := by rw [e]; rfl
              have q7 : (o.kind == 7) = true := by rw [e]; rfl
              clear e
              (try simp only [q7])
              go_wp2_with fail
              go_meet
              exact ⟨rfl, rfl⟩
          obtain ⟨rfl, hwc⟩ := hcut
          subst hwc
          clear hk4 h4 h8
          go_upto_region 20 with fail
          go_cut [11, 12, 13] (fun v11 v12 v13 wx => ∃ (q : Nat) (B5 B6 : Option Addr) (d5 d6 : Nat), v11 = .pointer (some ⟨q, 0, none⟩) ∧ v12 = .int .i64 n ∧ v13 = .bool lf ∧ w7.heap.size ≤ q ∧ q < wx.heap.size ∧ Bx wx q [(.slice (some ⟨g1, o1, none⟩) 4 c1), .int .i64 M.pc, (.slice (some ⟨g2, o2, none⟩) 64 c2), .int .i64 M.save, .bool M.lets, .bool M.waits, .int .i64 M.halt, (.slice B5 M.ins.length d5), (.slice B6 M.outs.length d6), .int .i64 M.count] ∧ (∀ oo, wx.frozen? ⟨q, oo, none⟩ = false) ∧ Gro 3 w4.heap.size wx (.slice A7 y.vals.length c7) y.vals ∧ Mach 3 w2.heap.size ((Value.ownBlock (.slice A7 y.vals.length c7)).toList ++ [w3.heap.size]) wx g1 o1 c1 g2 o2 c2 (.slice B5 M.ins.length d5) (.slice B6 M.outs.length d6) M ∧ Ext w wx ∧ w7.heap.size ≤ wx.heap.size ∧ Bx wx (w3.heap.size) [(.slice (some ⟨g1, o1, none⟩) 4 c1), .int .i64 y.m.pc, (.slice (some ⟨g2, o2, none⟩) 64 c2), .int .i64 y.m.save, .bool y.m.lets, .bool y.m.waits, .int .i64 y.m.halt, (.slice B3 y.m.ins.length d3), (.slice B4 y.m.outs.length d4), .int .i64 y.m.count] ∧ (∀ oo, wx.frozen? ⟨w3.heap.size, oo, none⟩ = false) ∧ Bx wx (w.heap.size) [.int .i64 b.pc, .int .i64 b.len, (.slice (some ⟨bb, off, none⟩) b.ops.length cb1), .int .i64 b.fin, .int .i64 b.x, .int .i64 b.y, .int .i64 b.k] ∧ (∀ oo, wx.frozen? ⟨w.heap.size, oo, none⟩ = false) ∧ Bx wx (w.heap.size + 1 + 1) [.slice none 0 0, .int .i64 0, .slice none 0 0, .int .i64 0, .bool false, .bool false, .int .i64 0, .slice none 0 0, .slice none 0 0, .int .i64 0] ∧ (∀ oo, wx.frozen? ⟨w.heap.size + 1 + 1, oo, none⟩ = false))
          · 
            have yx : w3.heap.size < w7.heap.size := by omega
            have xx0 := hBx_7 0 _ rfl
            have xx1 := hBx_7 1 _ rfl
            have xx2 := hBx_7 2 _ rfl
            have xx3 := hBx_7 3 _ rfl
            have xx4 := hBx_7 4 _ rfl
            have xx5 := hBx_7 5 _ rfl
            have xx6 := hBx_7 6 _ rfl
            have xx7 := hBx_7 7 _ rfl
            have xx8 := hBx_7 8 _ rfl
            have xx9 := hBx_7 9 _ rfl
            have fx := hFx_7
            have yb : w.heap.size < w7.heap.size := by omega
            have xb0 := hBb_7 0 _ rfl
            have xb1 := hBb_7 1 _ rfl
            have xb2 := hBb_7 2 _ rfl
            have xb3 := hBb_7 3 _ rfl
            have xb4 := hBb_7 4 _ rfl
            have xb5 := hBb_7 5 _ rfl
            have xb6 := hBb_7 6 _ rfl
            have fb := hFb_7
            have yo : w6.heap.size < w7.heap.size := by omega
            have xo0 := hBo_7 0 _ rfl
            have xo1 := hBo_7 1 _ rfl
            have xo2 := hBo_7 2 _ rfl
            have xo3 := hBo_7 3 _ rfl
            have xo4 := hBo_7 4 _ rfl
            have fo := hFo_7
            have hSx : ∀ w', Turn (mfoot g1 g2 (Value.slice B4 y.m.outs.length d4)) w7 w' → ∀ oo, w'.cell? ⟨w3.heap.size, oo, none⟩ = w7.cell? ⟨w3.heap.size, oo, none⟩ := fun w' hx oo => hx.cell yx hnX
            have hSb : ∀ w', Turn (mfoot g1 g2 (Value.slice B4 y.m.outs.length d4)) w7 w' → ∀ oo, w'.cell? ⟨w.heap.size, oo, none⟩ = w7.cell? ⟨w.heap.size, oo, none⟩ := fun w' hx oo => hx.cell yb (fun hm => by have := hfoot _ hm; omega)
            have hSo : ∀ w', Turn (mfoot g1 g2 (Value.slice B4 y.m.outs.length d4)) w7 w' → ∀ oo, w'.cell? ⟨w6.heap.size, oo, none⟩ = w7.cell? ⟨w6.heap.size, oo, none⟩ := fun w' hx oo => hx.cell yo (fun hm => by have := hfoot _ hm; omega)
            refine wp_region_plan (fun w' => Turn (mfoot g1 g2 (Value.slice B4 y.m.outs.length d4)) w7 w') 19 (.float 0 (.float 1 (.float 2 (.float 3 (.float 4 (.float 5 (.float 7 (.float 8 (.float 9 (.fork 6 16 (.fork 10 16 (.fork 11 16 (.float 12 (.float 13 (.float 14 (.float 15 (.chain 16 (.chain 17 (.float 18 (.tail 19)))))))) (.chain 11 (.float 12 (.float 13 (.float 14 (.float 15 (.chain 17 (.float 18 (.tail 19))))))))) (.chain 10 (.chain 11 (.float 12 (.float 13 (.float 14 (.float 15 (.chain 17 (.float 18 (.tail 19)))))))))) (.chain 6 (.chain 10 (.chain 11 (.float 12 (.float 13 (.float 14 (.float 15 (.chain 17 (.float 18 (.tail 19)))))))))))))))))))) (by kernel_rfl) (by kernel_rfl) (Turn.of_ext (Ext.refl _).drew _) ?_
            iterate 9 ((refine Plan.float_step (v := ?_) rfl (by rfl) (fun _ _ _ h => h) (fun w' hSw => ?_) ?_; rotate_left; · (go_simp; try with_reducible rfl)); (try simp only [Act.put, List.setIfInBounds_toArray, List.set_cons_zero, List.set_cons_succ]))
            refine Plan.fork_step ?_ ?_
            · 
              refine Plan.chain_step rfl (fun K hK8 => ?_)
              go_simp
              refine (l5At_any y.vals _ o.x _ (Gro.sl (show Gro 3 w4.heap.size w7.drew _ y.vals from Gro.hold hG)) hx0).mono ?_
              rintro e w' ⟨rfl, rfl⟩
              refine hK8.out _ _ (Turn.of_ext (show Ext w7 w7.drew from Ext.auto) _) ?_
              clear hK8
              (try simp only [Act.put, List.setIfInBounds_toArray, List.set_cons_zero, List.set_cons_succ])
              refine Plan.fork_step ?_ ?_
              · 
                refine Plan.chain_step rfl (fun K hK8 => ?_)
                go_simp
                refine (l5At_any y.vals _ o.y _ (Gro.sl (show Gro 3 w4.heap.size w7.drew _ y.vals from Gro.hold hG)) hy0).mono ?_
                rintro e w' ⟨rfl, rfl⟩
                refine hK8.out _ _ (Turn.of_ext (show Ext w7 w7.drew from Ext.auto) _) ?_
                clear hK8
                (try simp only [Act.put, List.setIfInBounds_toArray, List.set_cons_zero, List.set_cons_succ])
                refine Plan.fork_step ?_ ?_
                · 
                  refine Plan.chain_step rfl (fun K hK8 => ?_)
                  go_simp
                  have hMc : Mach 3 w2.heap.size ((Value.ownBlock (.slice A7 y.vals.length c7)).toList ++ [w3.heap.size]) w7.drew g1 o1 c1 g2 o2 c2 (.slice B3 y.m.ins.length d3) (.slice B4 y.m.outs.length d4) y.m := Mach.hold hM
                  have hc := l6Event_any y.m b o (gI y.vals o.x) (gI y.vals o.y) (.slice (some ⟨bb, off, none⟩) b.ops.length cb1) g1 o1 c1 g2 o2 c2 (.slice B3 y.m.ins.length d3) (.slice B4 y.m.outs.length d4) _ _ _ hMc hok hn44 (by omega) (by omega) HK4.out (by omega) hwx.1 hwx.2 hwy.1 hwy.2
                  rw [← HEV.out] at hc
                  simp only at hc
                  refine hc.mono ?_
                  clear hc
                  rintro e w9 ⟨v5, v6, rfl, hM9, hy, -⟩
                  obtain ⟨B5, d5, rfl, -, -⟩ := hM9.form3
                  obtain ⟨B6, d6, rfl, -, -⟩ := hM9.form4
                  have hT9 : Turn (mfoot g1 g2 (Value.slice B4 y.m.outs.length d4)) w7 w9 := (Turn.of_ext (show Ext w7 w7.drew from Ext.auto) _).trans hy (fun x hx => .inl hx)
                  have hs9 := hy.size
                  have hss9 : w7.heap.size + 0 ≤ w7.drew.heap.size := by simp
                  refine hK8.out _ _ hT9 ?_
                  clear hK8
                  (try simp only [Act.put, List.setIfInBounds_toArray, List.set_cons_zero, List.set_cons_succ])
                  have hG9 : Gro 3 w4.heap.size w9 (.slice A7 y.vals.length c7) y.vals := (show Gro 3 w4.heap.size w7.drew _ y.vals from Gro.hold hG).turn hy hnV
                  have he9 : Ext w w9 := hT9.ext he7 (fun x hx => by have := hfoot x hx; omega)
                  have hBx_9 := hT9.bx hBx_7 (by omega) hnX
                  have hFx_9 : ∀ oo, w9.frozen? ⟨w3.heap.size, oo, none⟩ = false := fun oo => (hT9.frozen (by omega) hnX).trans (hFx_7 oo)
                  have hBb_9 := hT9.bx hBb_7 (by omega) (fun hm => by have := hfoot _ hm; omega)
                  have hFb_9 : ∀ oo, w9.frozen? ⟨w.heap.size, oo, none⟩ = false := fun oo => (hT9.frozen (by omega) (fun hm => by have := hfoot _ hm; omega)).trans (hFb_7 oo)
                  have hBres_9 := hT9.bx hBres_7 (by omega) (fun hm => by have := hfoot _ hm; omega)
                  have hFres_9 : ∀ oo, w9.frozen? ⟨w.heap.size + 1 + 1, oo, none⟩ = false := fun oo => (hT9.frozen (by omega) (fun hm => by have := hfoot _ hm; omega)).trans (hFres_7 oo)
                  iterate 4 ((refine Plan.float_step (v := ?_) rfl (by rfl) (fun _ _ _ h => h) (fun w' hSw => ?_) ?_; rotate_left; · (go_simp; try with_reducible rfl)); (try simp only [Act.put, List.setIfInBounds_toArray, List.set_cons_zero, List.set_cons_succ]))
                  refine Plan.chain_step rfl (fun K hK8 => ?_)
                  go_simp
                  refine hK8.out _ _ (hT9.alloc _) ?_
                  clear hK8
                  (try simp only [Act.put, List.setIfInBounds_toArray, List.set_cons_zero, List.set_cons_succ])
                  refine Plan.chain_step rfl (fun K hK8 => ?_)
                  go_simp
                  generalize ho : Obj.cells #[(.slice (some ⟨g1, o1, none⟩) 4 c1), .int .i64 M.pc, (.slice (some ⟨g2, o2, none⟩) 64 c2), .int .i64 M.save, .bool M.lets, .bool M.waits, .int .i64 M.halt, (.slice B5 M.ins.length d5), (.slice B6 M.outs.length d6), .int .i64 M.count] 46 = oj
                  refine hK8.out _ _ (show Turn _ _ (w9.alloc oj) from hT9.alloc _) ?_
                  clear hK8
                  (try simp only [Act.put, List.setIfInBounds_toArray, List.set_cons_zero, List.set_cons_succ])
                  generalize hwT : w9.alloc oj = wT
                  have hTx : Ext w9 wT := by rw [← hwT]; exact Ext.auto
                  have hsT := hTx.size
                  have hBz : Bx wT w9.heap.size [(.slice (some ⟨g1, o1, none⟩) 4 c1), .int .i64 M.pc, (.slice (some ⟨g2, o2, none⟩) 64 c2), .int .i64 M.save, .bool M.lets, .bool M.waits, .int .i64 M.halt, (.slice B5 M.ins.length d5), (.slice B6 M.outs.length d6), .int .i64 M.count] := by rw [← hwT, ← ho]; exact Bx.new w9 #[(.slice (some ⟨g1, o1, none⟩) 4 c1), .int .i64 M.pc, (.slice (some ⟨g2, o2, none⟩) 64 c2), .int .i64 M.save, .bool M.lets, .bool M.waits, .int .i64 M.halt, (.slice B5 M.ins.length d5), (.slice B6 M.outs.length d6), .int .i64 M.count] 46
                  have fz : ∀ oo, wT.frozen? ⟨w9.heap.size, oo, none⟩ = false := by rw [← hwT, ← ho]; exact fz_new w9 #[(.slice (some ⟨g1, o1, none⟩) 4 c1), .int .i64 M.pc, (.slice (some ⟨g2, o2, none⟩) 64 c2), .int .i64 M.save, .bool M.lets, .bool M.waits, .int .i64 M.halt, (.slice B5 M.ins.length d5), (.slice B6 M.outs.length d6), .int .i64 M.count] 46 rfl
                  have hsz : w9.heap.size < wT.heap.size := by rw [← hwT]; simp
                  have hMT := hM9.ext hTx
                  have hGT := hG9.ext hTx
                  have heT : Ext w wT := he9.trans hTx
                  have hBx_T := hTx.bx hBx_9 (by omega)
                  have hFx_T : ∀ oo, wT.frozen? ⟨w3.heap.size, oo, none⟩ = false := fun oo => (hTx.frozen (by omega)).trans (hFx_9 oo)
                  have hBb_T := hTx.bx hBb_9 (by omega)
                  have hFb_T : ∀ oo, wT.frozen? ⟨w.heap.size, oo, none⟩ = false := fun oo => (hTx.frozen (by omega)).trans (hFb_9 oo)
                  have hBres_T := hTx.bx hBres_9 (by omega)
                  have hFres_T : ∀ oo, wT.frozen? ⟨w.heap.size + 1 + 1, oo, none⟩ = false := fun oo => (hTx.frozen (by omega)).trans (hFres_9 oo)
                  (refine Plan.float_step (v := ?_) rfl (by rfl) (fun _ _ _ h => h) (fun w' hSw => ?_) ?_; rotate_left; · (go_simp; try with_reducible rfl)); (try simp only [Act.put, List.setIfInBounds_toArray, List.set_cons_zero, List.set_cons_succ])
                  refine Plan.tail_step ?_
                  simp only [List.drop_succ_cons, List.drop_zero]
                  go_wp2_with fail
                  go_meet
                  exact ⟨w9.heap.size, B5, B6, d5, d6, rfl, rfl, rfl, (by omega), (by omega), hBz, fz, hGT, hMT, heT, (by omega), hBx_T, hFx_T, hBb_T, hFb_T, hBres_T, hFres_T⟩
                · 
                  refine Plan.chain_step rfl (fun K hK8 => ?_)
                  go_simp
                  generalize hz : Obj.cells #[.slice none 0 0, .int .i64 0, .slice none 0 0, .int .i64 0, .bool false, .bool false, .int .i64 0, .slice none 0 0, .slice none 0 0, .int .i64 0] 46 = z
                  refine hK8.out _ _ (Turn.of_ext (show Ext w7 (w7.drew.alloc z) from Ext.auto) _) ?_
                  clear hK8
                  (try simp only [Act.put, List.setIfInBounds_toArray, List.set_cons_zero, List.set_cons_succ])
                  refine Plan.chain_step rfl (fun K hK8 => ?_)
                  go_simp
                  have hMc := hM.addX (show Ext w7 (w7.drew.alloc z) from Ext.auto) (b := w7.heap.size) (Nat.le_refl _) (by simp)
                  have hc := l6Event_any y.m b o (gI y.vals o.x) (gI y.vals o.y) (.slice (some ⟨bb, off, none⟩) b.ops.length cb1) g1 o1 c1 g2 o2 c2 (.slice B3 y.m.ins.length d3) (.slice B4 y.m.outs.length d4) _ _ _ hMc hok hn44 (by omega) (by omega) HK4.out (by omega) hwx.1 hwx.2 hwy.1 hwy.2
                  rw [← HEV.out] at hc
                  simp only at hc
                  refine hc.mono ?_
                  clear hc
                  rintro e w9 ⟨v5, v6, rfl, hM9, hy, -⟩
                  obtain ⟨B5, d5, rfl, -, -⟩ := hM9.form3
                  obtain ⟨B6, d6, rfl, -, -⟩ := hM9.form4
                  have hT9 : Turn (mfoot g1 g2 (Value.slice B4 y.m.outs.length d4)) w7 w9 := (Turn.of_ext (show Ext w7 (w7.drew.alloc z) from Ext.auto) _).trans hy (fun x hx => .inl hx)
                  have hs9 := hy.size
                  have hss9 : w7.heap.size + 1 ≤ (w7.drew.alloc z).heap.size := by simp
                  refine hK8.out _ _ hT9 ?_
                  clear hK8
                  (try simp only [Act.put, List.setIfInBounds_toArray, List.set_cons_zero, List.set_cons_succ])
                  have hG9 : Gro 3 w4.heap.size w9 (.slice A7 y.vals.length c7) y.vals := (show Gro 3 w4.heap.size (w7.drew.alloc z) _ y.vals from Gro.hold hG).turn hy hnV
                  have he9 : Ext w w9 := hT9.ext he7 (fun x hx => by have := hfoot x hx; omega)
                  have hBx_9 := hT9.bx hBx_7 (by omega) hnX
                  have hFx_9 : ∀ oo, w9.frozen? ⟨w3.heap.size, oo, none⟩ = false := fun oo => (hT9.frozen (by omega) hnX).trans (hFx_7 oo)
                  have hBb_9 := hT9.bx hBb_7 (by omega) (fun hm => by have := hfoot _ hm; omega)
                  have hFb_9 : ∀ oo, w9.frozen? ⟨w.heap.size, oo, none⟩ = false := fun oo => (hT9.frozen (by omega) (fun hm => by have := hfoot _ hm; omega)).trans (hFb_7 oo)
                  have hBres_9 := hT9.bx hBres_7 (by omega) (fun hm => by have := hfoot _ hm; omega)
                  have hFres_9 : ∀ oo, w9.frozen? ⟨w.heap.size + 1 + 1, oo, none⟩ = false := fun oo => (hT9.frozen (by omega) (fun hm => by have := hfoot _ hm; omega)).trans (hFres_7 oo)
                  have hBq : Bx w9 w7.heap.size [.slice none 0 0, .int .i64 0, .slice none 0 0, .int .i64 0, .bool false, .bool false, .int .i64 0, .slice none 0 0, .slice none 0 0, .int .i64 0] := hy.bx (by rw [← hz]; exact Bx.new w7.drew #[.slice none 0 0, .int .i64 0, .slice none 0 0, .int .i64 0, .bool false, .bool false, .int .i64 0, .slice none 0 0, .slice none 0 0, .int .i64 0] 46) (by simp) (fun hm => by have := hfoot _ hm; omega)
                  have fq : ∀ oo, w9.frozen? ⟨w7.heap.size, oo, none⟩ = false := fun oo => (hy.frozen (by simp) (fun hm => by have := hfoot _ hm; omega)).trans (by rw [← hz]; exact fz_new w7.drew #[.slice none 0 0, .int .i64 0, .slice none 0 0, .int .i64 0, .bool false, .bool false, .int .i64 0, .slice none 0 0, .slice none 0 0, .int .i64 0] 46 rfl oo)
                  have yq : w7.heap.size < w9.heap.size := by omega
                  have xq0 := hBq 0 _ rfl
                  have xq1 := hBq 1 _ rfl
                  have xq2 := hBq 2 _ rfl
                  have xq3 := hBq 3 _ rfl
                  have xq4 := hBq 4 _ rfl
                  have xq5 := hBq 5 _ rfl
                  have xq6 := hBq 6 _ rfl
                  have xq7 := hBq 7 _ rfl
                  have xq8 := hBq 8 _ rfl
                  have xq9 := hBq 9 _ rfl
                  iterate 4 ((refine Plan.float_step (v := ?_) rfl (by rfl) (fun _ _ _ h => h) (fun w' hSw => ?_) ?_; rotate_left; · (go_simp; try with_reducible rfl)); (try simp only [Act.put, List.setIfInBounds_toArray, List.set_cons_zero, List.set_cons_succ]))
                  refine Plan.chain_step rfl (fun K hK8 => ?_)
                  go_simp
                  generalize hwT : ((((((((((w9.setCell ⟨w7.heap.size, 0, none⟩ ((.slice (some ⟨g1, o1, none⟩) 4 c1))).setCell ⟨w7.heap.size, 1, none⟩ (.int .i64 M.pc)).setCell ⟨w7.heap.size, 2, none⟩ ((.slice (some ⟨g2, o2, none⟩) 64 c2))).setCell ⟨w7.heap.size, 3, none⟩ (.int .i64 M.save)).setCell ⟨w7.heap.size, 4, none⟩ (.bool M.lets)).setCell ⟨w7.heap.size, 5, none⟩ (.bool M.waits)).setCell ⟨w7.heap.size, 6, none⟩ (.int .i64 M.halt)).setCell ⟨w7.heap.size, 7, none⟩ ((.slice B5 M.ins.length d5))).setCell ⟨w7.heap.size, 8, none⟩ ((.slice B6 M.outs.length d6))).setCell ⟨w7.heap.size, 9, none⟩ (.int .i64 M.count)) = wT
                  have hTw : Turn [w7.heap.size] w9 wT := by rw [← hwT]; exact Turn.hold (Turn.refl _ _)
                  refine hK8.out _ _ (hT9.trans hTw (fun x hx => .inr (by simp at hx; omega))) ?_
                  clear hK8
                  (try simp only [Act.put, List.setIfInBounds_toArray, List.set_cons_zero, List.set_cons_succ])
                  have hBz : Bx wT w7.heap.size [(.slice (some ⟨g1, o1, none⟩) 4 c1), .int .i64 M.pc, (.slice (some ⟨g2, o2, none⟩) 64 c2), .int .i64 M.save, .bool M.lets, .bool M.waits, .int .i64 M.halt, (.slice B5 M.ins.length d5), (.slice B6 M.outs.length d6), .int .i64 M.count] := by rw [← hwT]; exact hBq.store10 rfl _ _ _ _ _ _ _ _ _ _
                  have fz : ∀ oo, wT.frozen? ⟨w7.heap.size, oo, none⟩ = false := by rw [← hwT]; exact fz_hold fq
                  have hsT := hTw.size
                  have hMT : Mach 3 w2.heap.size ((Value.ownBlock (.slice A7 y.vals.length c7)).toList ++ [w3.heap.size]) wT g1 o1 c1 g2 o2 c2 (.slice B5 M.ins.length d5) (.slice B6 M.outs.length d6) M := (hM9.turn hTw (by simp)).dropX
                  have hGT : Gro 3 w4.heap.size wT (.slice A7 y.vals.length c7) y.vals := hG9.turn hTw (fun q hq hm => by simp at hm; have := (hG.lt q hq).2; omega)
                  have heT : Ext w wT := hTw.ext he9 (by simp; omega)
                  have hBx_T := hTw.bx hBx_9 (by omega) (by simp; omega)
                  have hFx_T : ∀ oo, wT.frozen? ⟨w3.heap.size, oo, none⟩ = false := fun oo => (hTw.frozen (by omega) (by simp; omega)).trans (hFx_9 oo)
                  have hBb_T := hTw.bx hBb_9 (by omega) (by simp; omega)
                  have hFb_T : ∀ oo, wT.frozen? ⟨w.heap.size, oo, none⟩ = false := fun oo => (hTw.frozen (by omega) (by simp; omega)).trans (hFb_9 oo)
                  have hBres_T := hTw.bx hBres_9 (by omega) (by simp; omega)
                  have hFres_T : ∀ oo, wT.frozen? ⟨w.heap.size + 1 + 1, oo, none⟩ = false := fun oo => (hTw.frozen (by omega) (by simp; omega)).trans (hFres_9 oo)
                  (refine Plan.float_step (v := ?_) rfl (by rfl) (fun _ _ _ h => h) (fun w' hSw => ?_) ?_; rotate_left; · (go_simp; try with_reducible rfl)); (try simp only [Act.put, List.setIfInBounds_toArray, List.set_cons_zero, List.set_cons_succ])
                  refine Plan.tail_step ?_
                  simp only [List.drop_succ_cons, List.drop_zero]
                  go_wp2_with fail
                  go_meet
                  exact ⟨w7.heap.size, B5, B6, d5, d6, rfl, rfl, rfl, (by omega), (by omega), hBz, fz, hGT, hMT, heT, (by omega), hBx_T, hFx_T, hBb_T, hFb_T, hBres_T, hFres_T⟩
              · 
                refine Plan.chain_step rfl (fun K hK8 => ?_)
                go_simp
                generalize hz : Obj.cells #[.slice none 0 0, .int .i64 0, .slice none 0 0, .int .i64 0, .bool false, .bool false, .int .i64 0, .slice none 0 0, .slice none 0 0, .int .i64 0] 46 = z
                refine hK8.out _ _ (Turn.of_ext (show Ext w7 (w7.drew.alloc z) from Ext.auto) _) ?_
                clear hK8
                (try simp only [Act.put, List.setIfInBounds_toArray, List.set_cons_zero, List.set_cons_succ])
                refine Plan.chain_step rfl (fun K hK8 => ?_)
                go_simp
                refine (l5At_any y.vals _ o.y _ (Gro.sl (show Gro 3 w4.heap.size (w7.drew.alloc z) _ y.vals from Gro.hold hG)) hy0).mono ?_
                rintro e w' ⟨rfl, rfl⟩
                refine hK8.out _ _ (Turn.of_ext (show Ext w7 (w7.drew.alloc z) from Ext.auto) _) ?_
                clear hK8
                (try simp only [Act.put, List.setIfInBounds_toArray, List.set_cons_zero, List.set_cons_succ])
                refine Plan.chain_step rfl (fun K hK8 => ?_)
                go_simp
                have hMc := hM.addX (show Ext w7 (w7.drew.alloc z) from Ext.auto) (b := w7.heap.size) (Nat.le_refl _) (by simp)
                have hc := l6Event_any y.m b o (gI y.vals o.x) (gI y.vals o.y) (.slice (some ⟨bb, off, none⟩) b.ops.length cb1) g1 o1 c1 g2 o2 c2 (.slice B3 y.m.ins.length d3) (.slice B4 y.m.outs.length d4) _ _ _ hMc hok hn44 (by omega) (by omega) HK4.out (by omega) hwx.1 hwx.2 hwy.1 hwy.2
                rw [← HEV.out] at hc
                simp only at hc
                refine hc.mono ?_
                clear hc
                rintro e w9 ⟨v5, v6, rfl, hM9, hy, -⟩
                obtain ⟨B5, d5, rfl, -, -⟩ := hM9.form3
                obtain ⟨B6, d6, rfl, -, -⟩ := hM9.form4
                have hT9 : Turn (mfoot g1 g2 (Value.slice B4 y.m.outs.length d4)) w7 w9 := (Turn.of_ext (show Ext w7 (w7.drew.alloc z) from Ext.auto) _).trans hy (fun x hx => .inl hx)
                have hs9 := hy.size
                have hss9 : w7.heap.size + 1 ≤ (w7.drew.alloc z).heap.size := by simp
                refine hK8.out _ _ hT9 ?_
                clear hK8
                (try simp only [Act.put, List.setIfInBounds_toArray, List.set_cons_zero, List.set_cons_succ])
                have hG9 : Gro 3 w4.heap.size w9 (.slice A7 y.vals.length c7) y.vals := (show Gro 3 w4.heap.size (w7.drew.alloc z) _ y.vals from Gro.hold hG).turn hy hnV
                have he9 : Ext w w9 := hT9.ext he7 (fun x hx => by have := hfoot x hx; omega)
                have hBx_9 := hT9.bx hBx_7 (by omega) hnX
                have hFx_9 : ∀ oo, w9.frozen? ⟨w3.heap.size, oo, none⟩ = false := fun oo => (hT9.frozen (by omega) hnX).trans (hFx_7 oo)
                have hBb_9 := hT9.bx hBb_7 (by omega) (fun hm => by have := hfoot _ hm; omega)
                have hFb_9 : ∀ oo, w9.frozen? ⟨w.heap.size, oo, none⟩ = false := fun oo => (hT9.frozen (by omega) (fun hm => by have := hfoot _ hm; omega)).trans (hFb_7 oo)
                have hBres_9 := hT9.bx hBres_7 (by omega) (fun hm => by have := hfoot _ hm; omega)
                have hFres_9 : ∀ oo, w9.frozen? ⟨w.heap.size + 1 + 1, oo, none⟩ = false := fun oo => (hT9.frozen (by omega) (fun hm => by have := hfoot _ hm; omega)).trans (hFres_7 oo)
                have hBq : Bx w9 w7.heap.size [.slice none 0 0, .int .i64 0, .slice none 0 0, .int .i64 0, .bool false, .bool false, .int .i64 0, .slice none 0 0, .slice none 0 0, .int .i64 0] := hy.bx (by rw [← hz]; exact Bx.new w7.drew #[.slice none 0 0, .int .i64 0, .slice none 0 0, .int .i64 0, .bool false, .bool false, .int .i64 0, .slice none 0 0, .slice none 0 0, .int .i64 0] 46) (by simp) (fun hm => by have := hfoot _ hm; omega)
                have fq : ∀ oo, w9.frozen? ⟨w7.heap.size, oo, none⟩ = false := fun oo => (hy.frozen (by simp) (fun hm => by have := hfoot _ hm; omega)).trans (by rw [← hz]; exact fz_new w7.drew #[.slice none 0 0, .int .i64 0, .slice none 0 0, .int .i64 0, .bool false, .bool false, .int .i64 0, .slice none 0 0, .slice none 0 0, .int .i64 0] 46 rfl oo)
                have yq : w7.heap.size < w9.heap.size := by omega
                have xq0 := hBq 0 _ rfl
                have xq1 := hBq 1 _ rfl
                have xq2 := hBq 2 _ rfl
                have xq3 := hBq 3 _ rfl
                have xq4 := hBq 4 _ rfl
                have xq5 := hBq 5 _ rfl
                have xq6 := hBq 6 _ rfl
                have xq7 := hBq 7 _ rfl
                have xq8 := hBq 8 _ rfl
                have xq9 := hBq 9 _ rfl
                iterate 4 ((refine Plan.float_step (v := ?_) rfl (by rfl) (fun _ _ _ h => h) (fun w' hSw => ?_) ?_; rotate_left; · (go_simp; try with_reducible rfl)); (try simp only [Act.put, List.setIfInBounds_toArray, List.set_cons_zero, List.set_cons_succ]))
                refine Plan.chain_step rfl (fun K hK8 => ?_)
                go_simp
                generalize hwT : ((((((((((w9.setCell ⟨w7.heap.size, 0, none⟩ ((.slice (some ⟨g1, o1, none⟩) 4 c1))).setCell ⟨w7.heap.size, 1, none⟩ (.int .i64 M.pc)).setCell ⟨w7.heap.size, 2, none⟩ ((.slice (some ⟨g2, o2, none⟩) 64 c2))).setCell ⟨w7.heap.size, 3, none⟩ (.int .i64 M.save)).setCell ⟨w7.heap.size, 4, none⟩ (.bool M.lets)).setCell ⟨w7.heap.size, 5, none⟩ (.bool M.waits)).setCell ⟨w7.heap.size, 6, none⟩ (.int .i64 M.halt)).setCell ⟨w7.heap.size, 7, none⟩ ((.slice B5 M.ins.length d5))).setCell ⟨w7.heap.size, 8, none⟩ ((.slice B6 M.outs.length d6))).setCell ⟨w7.heap.size, 9, none⟩ (.int .i64 M.count)) = wT
                have hTw : Turn [w7.heap.size] w9 wT := by rw [← hwT]; exact Turn.hold (Turn.refl _ _)
                refine hK8.out _ _ (hT9.trans hTw (fun x hx => .inr (by simp at hx; omega))) ?_
                clear hK8
                (try simp only [Act.put, List.setIfInBounds_toArray, List.set_cons_zero, List.set_cons_succ])
                have hBz : Bx wT w7.heap.size [(.slice (some ⟨g1, o1, none⟩) 4 c1), .int .i64 M.pc, (.slice (some ⟨g2, o2, none⟩) 64 c2), .int .i64 M.save, .bool M.lets, .bool M.waits, .int .i64 M.halt, (.slice B5 M.ins.length d5), (.slice B6 M.outs.length d6), .int .i64 M.count] := by rw [← hwT]; exact hBq.store10 rfl _ _ _ _ _ _ _ _ _ _
                have fz : ∀ oo, wT.frozen? ⟨w7.heap.size, oo, none⟩ = false := by rw [← hwT]; exact fz_hold fq
                have hsT := hTw.size
                have hMT : Mach 3 w2.heap.size ((Value.ownBlock (.slice A7 y.vals.length c7)).toList ++ [w3.heap.size]) wT g1 o1 c1 g2 o2 c2 (.slice B5 M.ins.length d5) (.slice B6 M.outs.length d6) M := (hM9.turn hTw (by simp)).dropX
                have hGT : Gro 3 w4.heap.size wT (.slice A7 y.vals.length c7) y.vals := hG9.turn hTw (fun q hq hm => by simp at hm; have := (hG.lt q hq).2; omega)
                have heT : Ext w wT := hTw.ext he9 (by simp; omega)
                have hBx_T := hTw.bx hBx_9 (by omega) (by simp; omega)
                have hFx_T : ∀ oo, wT.frozen? ⟨w3.heap.size, oo, none⟩ = false := fun oo => (hTw.frozen (by omega) (by simp; omega)).trans (hFx_9 oo)
                have hBb_T := hTw.bx hBb_9 (by omega) (by simp; omega)
                have hFb_T : ∀ oo, wT.frozen? ⟨w.heap.size, oo, none⟩ = false := fun oo => (hTw.frozen (by omega) (by simp; omega)).trans (hFb_9 oo)
                have hBres_T := hTw.bx hBres_9 (by omega) (by simp; omega)
                have hFres_T : ∀ oo, wT.frozen? ⟨w.heap.size + 1 + 1, oo, none⟩ = false := fun oo => (hTw.frozen (by omega) (by simp; omega)).trans (hFres_9 oo)
                (refine Plan.float_step (v := ?_) rfl (by rfl) (fun _ _ _ h => h) (fun w' hSw => ?_) ?_; rotate_left; · (go_simp; try with_reducible rfl)); (try simp only [Act.put, List.setIfInBounds_toArray, List.set_cons_zero, List.set_cons_succ])
                refine Plan.tail_step ?_
                simp only [List.drop_succ_cons, List.drop_zero]
                go_wp2_with fail
                go_meet
                exact ⟨w7.heap.size, B5, B6, d5, d6, rfl, rfl, rfl, (by omega), (by omega), hBz, fz, hGT, hMT, heT, (by omega), hBx_T, hFx_T, hBb_T, hFb_T, hBres_T, hFres_T⟩
            · 
              refine Plan.chain_step rfl (fun K hK8 => ?_)
              go_simp
              generalize hz : Obj.cells #[.slice none 0 0, .int .i64 0, .slice none 0 0, .int .i64 0, .bool false, .bool false, .int .i64 0, .slice none 0 0, .slice none 0 0, .int .i64 0] 46 = z
              refine hK8.out _ _ (Turn.of_ext (show Ext w7 (w7.drew.alloc z) from Ext.auto) _) ?_
              clear hK8
              (try simp only [Act.put, List.setIfInBounds_toArray, List.set_cons_zero, List.set_cons_succ])
              refine Plan.chain_step rfl (fun K hK8 => ?_)
              go_simp
              refine (l5At_any y.vals _ o.x _ (Gro.sl (show Gro 3 w4.heap.size (w7.drew.alloc z) _ y.vals from Gro.hold hG)) hx0).mono ?_
              rintro e w' ⟨rfl, rfl⟩
              refine hK8.out _ _ (Turn.of_ext (show Ext w7 (w7.drew.alloc z) from Ext.auto) _) ?_
              clear hK8
              (try simp only [Act.put, List.setIfInBounds_toArray, List.set_cons_zero, List.set_cons_succ])
              refine Plan.chain_step rfl (fun K hK8 => ?_)
              go_simp
              refine (l5At_any y.vals _ o.y _ (Gro.sl (show Gro 3 w4.heap.size (w7.drew.alloc z) _ y.vals from Gro.hold hG)) hy0).mono ?_
              rintro e w' ⟨rfl, rfl⟩
              refine hK8.out _ _ (Turn.of_ext (show Ext w7 (w7.drew.alloc z) from Ext.auto) _) ?_
              clear hK8
              (try simp only [Act.put, List.setIfInBounds_toArray, List.set_cons_zero, List.set_cons_succ])
              refine Plan.chain_step rfl (fun K hK8 => ?_)
              go_simp
              have hMc := hM.addX (show Ext w7 (w7.drew.alloc z) from Ext.auto) (b := w7.heap.size) (Nat.le_refl _) (by simp)
              have hc := l6Event_any y.m b o (gI y.vals o.x) (gI y.vals o.y) (.slice (some ⟨bb, off, none⟩) b.ops.length cb1) g1 o1 c1 g2 o2 c2 (.slice B3 y.m.ins.length d3) (.slice B4 y.m.outs.length d4) _ _ _ hMc hok hn44 (by omega) (by omega) HK4.out (by omega) hwx.1 hwx.2 hwy.1 hwy.2
              rw [← HEV.out] at hc
              simp only at hc
              refine hc.mono ?_
              clear hc
              rintro e w9 ⟨v5, v6, rfl, hM9, hy, -⟩
              obtain ⟨B5, d5, rfl, -, -⟩ := hM9.form3
              obtain ⟨B6, d6, rfl, -, -⟩ := hM9.form4
              have hT9 : Turn (mfoot g1 g2 (Value.slice B4 y.m.outs.length d4)) w7 w9 := (Turn.of_ext (show Ext w7 (w7.drew.alloc z) from Ext.auto) _).trans hy (fun x hx => .inl hx)
              have hs9 := hy.size
              have hss9 : w7.heap.size + 1 ≤ (w7.drew.alloc z).heap.size := by simp
              refine hK8.out _ _ hT9 ?_
              clear hK8
              (try simp only [Act.put, List.setIfInBounds_toArray, List.set_cons_zero, List.set_cons_succ])
              have hG9 : Gro 3 w4.heap.size w9 (.slice A7 y.vals.length c7) y.vals := (show Gro 3 w4.heap.size (w7.drew.alloc z) _ y.vals from Gro.hold hG).turn hy hnV
              have he9 : Ext w w9 := hT9.ext he7 (fun x hx => by have := hfoot x hx; omega)
              have hBx_9 := hT9.bx hBx_7 (by omega) hnX
              have hFx_9 : ∀ oo, w9.frozen? ⟨w3.heap.size, oo, none⟩ = false := fun oo => (hT9.frozen (by omega) hnX).trans (hFx_7 oo)
              have hBb_9 := hT9.bx hBb_7 (by omega) (fun hm => by have := hfoot _ hm; omega)
              have hFb_9 : ∀ oo, w9.frozen? ⟨w.heap.size, oo, none⟩ = false := fun oo => (hT9.frozen (by omega) (fun hm => by have := hfoot _ hm; omega)).trans (hFb_7 oo)
              have hBres_9 := hT9.bx hBres_7 (by omega) (fun hm => by have := hfoot _ hm; omega)
              have hFres_9 : ∀ oo, w9.frozen? ⟨w.heap.size + 1 + 1, oo, none⟩ = false := fun oo => (hT9.frozen (by omega) (fun hm => by have := hfoot _ hm; omega)).trans (hFres_7 oo)
              have hBq : Bx w9 w7.heap.size [.slice none 0 0, .int .i64 0, .slice none 0 0, .int .i64 0, .bool false, .bool false, .int .i64 0, .slice none 0 0, .slice none 0 0, .int .i64 0] := hy.bx (by rw [← hz]; exact Bx.new w7.drew #[.slice none 0 0, .int .i64 0, .slice none 0 0, .int .i64 0, .bool false, .bool false, .int .i64 0, .slice none 0 0, .slice none 0 0, .int .i64 0] 46) (by simp) (fun hm => by have := hfoot _ hm; omega)
              have fq : ∀ oo, w9.frozen? ⟨w7.heap.size, oo, none⟩ = false := fun oo => (hy.frozen (by simp) (fun hm => by have := hfoot _ hm; omega)).trans (by rw [← hz]; exact fz_new w7.drew #[.slice none 0 0, .int .i64 0, .slice none 0 0, .int .i64 0, .bool false, .bool false, .int .i64 0, .slice none 0 0, .slice none 0 0, .int .i64 0] 46 rfl oo)
              have yq : w7.heap.size < w9.heap.size := by omega
              have xq0 := hBq 0 _ rfl
              have xq1 := hBq 1 _ rfl
              have xq2 := hBq 2 _ rfl
              have xq3 := hBq 3 _ rfl
              have xq4 := hBq 4 _ rfl
              have xq5 := hBq 5 _ rfl
              have xq6 := hBq 6 _ rfl
              have xq7 := hBq 7 _ rfl
              have xq8 := hBq 8 _ rfl
              have xq9 := hBq 9 _ rfl
              iterate 4 ((refine Plan.float_step (v := ?_) rfl (by rfl) (fun _ _ _ h => h) (fun w' hSw => ?_) ?_; rotate_left; · (go_simp; try with_reducible rfl)); (try simp only [Act.put, List.setIfInBounds_toArray, List.set_cons_zero, List.set_cons_succ]))
              refine Plan.chain_step rfl (fun K hK8 => ?_)
              go_simp
              generalize hwT : ((((((((((w9.setCell ⟨w7.heap.size, 0, none⟩ ((.slice (some ⟨g1, o1, none⟩) 4 c1))).setCell ⟨w7.heap.size, 1, none⟩ (.int .i64 M.pc)).setCell ⟨w7.heap.size, 2, none⟩ ((.slice (some ⟨g2, o2, none⟩) 64 c2))).setCell ⟨w7.heap.size, 3, none⟩ (.int .i64 M.save)).setCell ⟨w7.heap.size, 4, none⟩ (.bool M.lets)).setCell ⟨w7.heap.size, 5, none⟩ (.bool M.waits)).setCell ⟨w7.heap.size, 6, none⟩ (.int .i64 M.halt)).setCell ⟨w7.heap.size, 7, none⟩ ((.slice B5 M.ins.length d5))).setCell ⟨w7.heap.size, 8, none⟩ ((.slice B6 M.outs.length d6))).setCell ⟨w7.heap.size, 9, none⟩ (.int .i64 M.count)) = wT
              have hTw : Turn [w7.heap.size] w9 wT := by rw [← hwT]; exact Turn.hold (Turn.refl _ _)
              refine hK8.out _ _ (hT9.trans hTw (fun x hx => .inr (by simp at hx; omega))) ?_
              clear hK8
              (try simp only [Act.put, List.setIfInBounds_toArray, List.set_cons_zero, List.set_cons_succ])
              have hBz : Bx wT w7.heap.size [(.slice (some ⟨g1, o1, none⟩) 4 c1), .int .i64 M.pc, (.slice (some ⟨g2, o2, none⟩) 64 c2), .int .i64 M.save, .bool M.lets, .bool M.waits, .int .i64 M.halt, (.slice B5 M.ins.length d5), (.slice B6 M.outs.length d6), .int .i64 M.count] := by rw [← hwT]; exact hBq.store10 rfl _ _ _ _ _ _ _ _ _ _
              have fz : ∀ oo, wT.frozen? ⟨w7.heap.size, oo, none⟩ = false := by rw [← hwT]; exact fz_hold fq
              have hsT := hTw.size
              have hMT : Mach 3 w2.heap.size ((Value.ownBlock (.slice A7 y.vals.length c7)).toList ++ [w3.heap.size]) wT g1 o1 c1 g2 o2 c2 (.slice B5 M.ins.length d5) (.slice B6 M.outs.length d6) M := (hM9.turn hTw (by simp)).dropX
              have hGT : Gro 3 w4.heap.size wT (.slice A7 y.vals.length c7) y.vals := hG9.turn hTw (fun q hq hm => by simp at hm; have := (hG.lt q hq).2; omega)
              have heT : Ext w wT := hTw.ext he9 (by simp; omega)
              have hBx_T := hTw.bx hBx_9 (by omega) (by simp; omega)
              have hFx_T : ∀ oo, wT.frozen? ⟨w3.heap.size, oo, none⟩ = false := fun oo => (hTw.frozen (by omega) (by simp; omega)).trans (hFx_9 oo)
              have hBb_T := hTw.bx hBb_9 (by omega) (by simp; omega)
              have hFb_T : ∀ oo, wT.frozen? ⟨w.heap.size, oo, none⟩ = false := fun oo => (hTw.frozen (by omega) (by simp; omega)).trans (hFb_9 oo)
              have hBres_T := hTw.bx hBres_9 (by omega) (by simp; omega)
              have hFres_T : ∀ oo, wT.frozen? ⟨w.heap.size + 1 + 1, oo, none⟩ = false := fun oo => (hTw.frozen (by omega) (by simp; omega)).trans (hFres_9 oo)
              (refine Plan.float_step (v := ?_) rfl (by rfl) (fun _ _ _ h => h) (fun w' hSw => ?_) ?_; rotate_left; · (go_simp; try with_reducible rfl)); (try simp only [Act.put, List.setIfInBounds_toArray, List.set_cons_zero, List.set_cons_succ])
              refine Plan.tail_step ?_
              simp only [List.drop_succ_cons, List.drop_zero]
              go_wp2_with fail
              go_meet
              exact ⟨w7.heap.size, B5, B6, d5, d6, rfl, rfl, rfl, (by omega), (by omega), hBz, fz, hGT, hMT, heT, (by omega), hBx_T, hFx_T, hBb_T, hFb_T, hBres_T, hFres_T⟩
          clear hM hG
          obtain ⟨q, B5, B6, d5, d6, rfl, rfl, rfl, hq0, hq1, hBq_, hFq_, hG, hM, he8, hs8, hBx_8, hFx_8, hBb_8, hFb_8, hBres_8, hFres_8⟩ := hcut
          obtain ⟨w8, hwc⟩ : ∃ w8 : World, w8 = wc := ⟨_, rfl⟩
          subst hwc
          try clear hBx_7 hFx_7 hBb_7 hFb_7 hBres_7 hFres_7 hBo_7 hFo_7
          have hBq_8 := hBq_
          have hFq_8 := hFq_
          clear hBq_ hFq_
          have hneX : ∀ q, (Value.ownBlock (.slice A7 y.vals.length c7)) = some q → q ≠ w3.heap.size := fun q hq e => by have := (hG.lt q hq).1; omega
          cases lf
          rotate_left
          · 
            have HE := hide (show rTo b m b.ops.length = ⟨M, y.vals ++ [n], true⟩ by rw [rTo_left b m (k + 1) (by omega) (by rw [HO.out, HR4.out]), HO.out, HR4.out])
            replace HV := hide (show irRun b m = M by rw [HV.out, HE.out]; rfl)
            have yq : q < w8.heap.size := by omega
            have xq0 := hBq_8 0 _ rfl
            have xq1 := hBq_8 1 _ rfl
            have xq2 := hBq_8 2 _ rfl
            have xq3 := hBq_8 3 _ rfl
            have xq4 := hBq_8 4 _ rfl
            have xq5 := hBq_8 5 _ rfl
            have xq6 := hBq_8 6 _ rfl
            have xq7 := hBq_8 7 _ rfl
            have xq8 := hBq_8 8 _ rfl
            have xq9 := hBq_8 9 _ rfl
            have fq := hFq_8
            go_upto_region 22 with fail
            clear xq0 xq1 xq2 xq3 xq4 xq5 xq6 xq7 xq8 xq9 yq
            clear fq
            skip
            have yq : q < w8.heap.size := by omega
            have xq0 := hBq_8 0 _ rfl
            have xq1 := hBq_8 1 _ rfl
            have xq2 := hBq_8 2 _ rfl
            have xq3 := hBq_8 3 _ rfl
            have xq4 := hBq_8 4 _ rfl
            have xq5 := hBq_8 5 _ rfl
            have xq6 := hBq_8 6 _ rfl
            have xq7 := hBq_8 7 _ rfl
            have xq8 := hBq_8 8 _ rfl
            have xq9 := hBq_8 9 _ rfl
            have fq := hFq_8
            obtain ⟨F1, F2, F3, F4, hO1, hO2, hO3, hO4, hFr⟩ := Mach.out hM (w0 := w2) (Nat.le_refl _)
            have yres : w.heap.size + 1 + 1 < w8.heap.size := by omega
            have xres0 := hBres_8 0 _ rfl
            have xres1 := hBres_8 1 _ rfl
            have xres2 := hBres_8 2 _ rfl
            have xres3 := hBres_8 3 _ rfl
            have xres4 := hBres_8 4 _ rfl
            have xres5 := hBres_8 5 _ rfl
            have xres6 := hBres_8 6 _ rfl
            have xres7 := hBres_8 7 _ rfl
            have xres8 := hBres_8 8 _ rfl
            have xres9 := hBres_8 9 _ rfl
            have fres := hFres_8
            go_wp2
            refine bodyPost_ret (v := .tuple #[.agg #[(.slice (some ⟨g1, o1, none⟩) 4 c1), .int .i64 M.pc, (.slice (some ⟨g2, o2, none⟩) 64 c2), .int .i64 M.save, .bool M.lets, .bool M.waits, .int .i64 M.halt, (.slice B5 M.ins.length d5), (.slice B6 M.outs.length d6), .int .i64 M.count], .bool true]) (by simp [results, Try.results23, go_sem, xres0, xres1, xres2, xres3, xres4, xres5, xres6, xres7, xres8, xres9]) rfl ?_
            unfold IrPost
            rw [HV.out, HW.out]
            refine ⟨(.slice (some ⟨g1, o1, none⟩) 4 c1), (.slice (some ⟨g2, o2, none⟩) 64 c2), (.slice B5 M.ins.length d5), (.slice B6 M.outs.length d6), F1, F2, F3, F4, rfl, ?_, ?_, ?_, ?_, ?_, Ext.hold he8⟩
            · exact OwnSl.stay hO1 (fun z hb => by
                have q := hFr.2 z (by simp [hb]); have q1 := q.1; have q2 := q.2
                repeat (first | rw [heap_set _ _ _ _ (by show _ ≠ z; omega)] | rw [heap_set _ _ _ _ (by simp; omega)]))
            · exact OwnSl.stay hO2 (fun z hb => by
                have q := hFr.2 z (by simp [hb]); have q1 := q.1; have q2 := q.2
                repeat (first | rw [heap_set _ _ _ _ (by show _ ≠ z; omega)] | rw [heap_set _ _ _ _ (by simp; omega)]))
            · exact OwnSl.stay hO3 (fun z hb => by
                have q := hFr.2 z (by simp [hb]); have q1 := q.1; have q2 := q.2
                repeat (first | rw [heap_set _ _ _ _ (by show _ ≠ z; omega)] | rw [heap_set _ _ _ _ (by simp; omega)]))
            · exact OwnSl.stay hO4 (fun z hb => by
                have q := hFr.2 z (by simp [hb]); have q1 := q.1; have q2 := q.2
                repeat (first | rw [heap_set _ _ _ _ (by show _ ≠ z; omega)] | rw [heap_set _ _ _ _ (by simp; omega)]))
            · exact hFr.mk1 (by first | omega | (simp; done) | (simp; omega)) (by first | omega | (simp; done) | (simp; omega))
          have hRn := hR.out.next HL.out (fun e => op_c hop e) (by rw [HR4.out])
          rw [HR4.out] at hRn
          have hwn := hRn.words n (by simp)
          clear hRn
          have yq : q < w8.heap.size := by omega
          have xq0 := hBq_8 0 _ rfl
          have xq1 := hBq_8 1 _ rfl
          have xq2 := hBq_8 2 _ rfl
          have xq3 := hBq_8 3 _ rfl
          have xq4 := hBq_8 4 _ rfl
          have xq5 := hBq_8 5 _ rfl
          have xq6 := hBq_8 6 _ rfl
          have xq7 := hBq_8 7 _ rfl
          have xq8 := hBq_8 8 _ rfl
          have xq9 := hBq_8 9 _ rfl
          have fq := hFq_8
          have yx : w3.heap.size < w8.heap.size := by omega
          have xx0 := hBx_8 0 _ rfl
          have xx1 := hBx_8 1 _ rfl
          have xx2 := hBx_8 2 _ rfl
          have xx3 := hBx_8 3 _ rfl
          have xx4 := hBx_8 4 _ rfl
          have xx5 := hBx_8 5 _ rfl
          have xx6 := hBx_8 6 _ rfl
          have xx7 := hBx_8 7 _ rfl
          have xx8 := hBx_8 8 _ rfl
          have xx9 := hBx_8 9 _ rfl
          have fx := hFx_8
          go_upto_region 24 with fail
          clear xq0 xq1 xq2 xq3 xq4 xq5 xq6 xq7 xq8 xq9 yq
          clear fq
          clear xx0 xx1 xx2 xx3 xx4 xx5 xx6 xx7 xx8 xx9 yx
          clear fx
          have hGx : Gro 3 w4.heap.size ((((((((((w8.setCell ⟨w3.heap.size, 0, none⟩ ((.slice (some ⟨g1, o1, none⟩) 4 c1))).setCell ⟨w3.heap.size, 1, none⟩ (.int .i64 M.pc)).setCell ⟨w3.heap.size, 2, none⟩ ((.slice (some ⟨g2, o2, none⟩) 64 c2))).setCell ⟨w3.heap.size, 3, none⟩ (.int .i64 M.save)).setCell ⟨w3.heap.size, 4, none⟩ (.bool M.lets)).setCell ⟨w3.heap.size, 5, none⟩ (.bool M.waits)).setCell ⟨w3.heap.size, 6, none⟩ (.int .i64 M.halt)).setCell ⟨w3.heap.size, 7, none⟩ ((.slice B5 M.ins.length d5))).setCell ⟨w3.heap.size, 8, none⟩ ((.slice B6 M.outs.length d6))).setCell ⟨w3.heap.size, 9, none⟩ (.int .i64 M.count)) (.slice A7 y.vals.length c7) y.vals := Gro.hold hG
          clear hG
          have he9 : Ext w ((((((((((w8.setCell ⟨w3.heap.size, 0, none⟩ ((.slice (some ⟨g1, o1, none⟩) 4 c1))).setCell ⟨w3.heap.size, 1, none⟩ (.int .i64 M.pc)).setCell ⟨w3.heap.size, 2, none⟩ ((.slice (some ⟨g2, o2, none⟩) 64 c2))).setCell ⟨w3.heap.size, 3, none⟩ (.int .i64 M.save)).setCell ⟨w3.heap.size, 4, none⟩ (.bool M.lets)).setCell ⟨w3.heap.size, 5, none⟩ (.bool M.waits)).setCell ⟨w3.heap.size, 6, none⟩ (.int .i64 M.halt)).setCell ⟨w3.heap.size, 7, none⟩ ((.slice B5 M.ins.length d5))).setCell ⟨w3.heap.size, 8, none⟩ ((.slice B6 M.outs.length d6))).setCell ⟨w3.heap.size, 9, none⟩ (.int .i64 M.count)) := Ext.hold he8
          have hs9 : w8.heap.size ≤ (((((((((((w8.setCell ⟨w3.heap.size, 0, none⟩ ((.slice (some ⟨g1, o1, none⟩) 4 c1))).setCell ⟨w3.heap.size, 1, none⟩ (.int .i64 M.pc)).setCell ⟨w3.heap.size, 2, none⟩ ((.slice (some ⟨g2, o2, none⟩) 64 c2))).setCell ⟨w3.heap.size, 3, none⟩ (.int .i64 M.save)).setCell ⟨w3.heap.size, 4, none⟩ (.bool M.lets)).setCell ⟨w3.heap.size, 5, none⟩ (.bool M.waits)).setCell ⟨w3.heap.size, 6, none⟩ (.int .i64 M.halt)).setCell ⟨w3.heap.size, 7, none⟩ ((.slice B5 M.ins.length d5))).setCell ⟨w3.heap.size, 8, none⟩ ((.slice B6 M.outs.length d6))).setCell ⟨w3.heap.size, 9, none⟩ (.int .i64 M.count))).heap.size := by simp
          have hBx_9 : Bx ((((((((((w8.setCell ⟨w3.heap.size, 0, none⟩ ((.slice (some ⟨g1, o1, none⟩) 4 c1))).setCell ⟨w3.heap.size, 1, none⟩ (.int .i64 M.pc)).setCell ⟨w3.heap.size, 2, none⟩ ((.slice (some ⟨g2, o2, none⟩) 64 c2))).setCell ⟨w3.heap.size, 3, none⟩ (.int .i64 M.save)).setCell ⟨w3.heap.size, 4, none⟩ (.bool M.lets)).setCell ⟨w3.heap.size, 5, none⟩ (.bool M.waits)).setCell ⟨w3.heap.size, 6, none⟩ (.int .i64 M.halt)).setCell ⟨w3.heap.size, 7, none⟩ ((.slice B5 M.ins.length d5))).setCell ⟨w3.heap.size, 8, none⟩ ((.slice B6 M.outs.length d6))).setCell ⟨w3.heap.size, 9, none⟩ (.int .i64 M.count)) (w3.heap.size) [(.slice (some ⟨g1, o1, none⟩) 4 c1), .int .i64 M.pc, (.slice (some ⟨g2, o2, none⟩) 64 c2), .int .i64 M.save, .bool M.lets, .bool M.waits, .int .i64 M.halt, (.slice B5 M.ins.length d5), (.slice B6 M.outs.length d6), .int .i64 M.count] := hBx_8.store10 rfl _ _ _ _ _ _ _ _ _ _
          have hFx_9 : ∀ oo, ((((((((((w8.setCell ⟨w3.heap.size, 0, none⟩ ((.slice (some ⟨g1, o1, none⟩) 4 c1))).setCell ⟨w3.heap.size, 1, none⟩ (.int .i64 M.pc)).setCell ⟨w3.heap.size, 2, none⟩ ((.slice (some ⟨g2, o2, none⟩) 64 c2))).setCell ⟨w3.heap.size, 3, none⟩ (.int .i64 M.save)).setCell ⟨w3.heap.size, 4, none⟩ (.bool M.lets)).setCell ⟨w3.heap.size, 5, none⟩ (.bool M.waits)).setCell ⟨w3.heap.size, 6, none⟩ (.int .i64 M.halt)).setCell ⟨w3.heap.size, 7, none⟩ ((.slice B5 M.ins.length d5))).setCell ⟨w3.heap.size, 8, none⟩ ((.slice B6 M.outs.length d6))).setCell ⟨w3.heap.size, 9, none⟩ (.int .i64 M.count)).frozen? ⟨w3.heap.size, oo, none⟩ = false := fz_hold hFx_8
          have hBb_9 : Bx ((((((((((w8.setCell ⟨w3.heap.size, 0, none⟩ ((.slice (some ⟨g1, o1, none⟩) 4 c1))).setCell ⟨w3.heap.size, 1, none⟩ (.int .i64 M.pc)).setCell ⟨w3.heap.size, 2, none⟩ ((.slice (some ⟨g2, o2, none⟩) 64 c2))).setCell ⟨w3.heap.size, 3, none⟩ (.int .i64 M.save)).setCell ⟨w3.heap.size, 4, none⟩ (.bool M.lets)).setCell ⟨w3.heap.size, 5, none⟩ (.bool M.waits)).setCell ⟨w3.heap.size, 6, none⟩ (.int .i64 M.halt)).setCell ⟨w3.heap.size, 7, none⟩ ((.slice B5 M.ins.length d5))).setCell ⟨w3.heap.size, 8, none⟩ ((.slice B6 M.outs.length d6))).setCell ⟨w3.heap.size, 9, none⟩ (.int .i64 M.count)) (w.heap.size) [.int .i64 b.pc, .int .i64 b.len, (.slice (some ⟨bb, off, none⟩) b.ops.length cb1), .int .i64 b.fin, .int .i64 b.x, .int .i64 b.y, .int .i64 b.k] := Bx.hold hBb_8
          have hFb_9 : ∀ oo, ((((((((((w8.setCell ⟨w3.heap.size, 0, none⟩ ((.slice (some ⟨g1, o1, none⟩) 4 c1))).setCell ⟨w3.heap.size, 1, none⟩ (.int .i64 M.pc)).setCell ⟨w3.heap.size, 2, none⟩ ((.slice (some ⟨g2, o2, none⟩) 64 c2))).setCell ⟨w3.heap.size, 3, none⟩ (.int .i64 M.save)).setCell ⟨w3.heap.size, 4, none⟩ (.bool M.lets)).setCell ⟨w3.heap.size, 5, none⟩ (.bool M.waits)).setCell ⟨w3.heap.size, 6, none⟩ (.int .i64 M.halt)).setCell ⟨w3.heap.size, 7, none⟩ ((.slice B5 M.ins.length d5))).setCell ⟨w3.heap.size, 8, none⟩ ((.slice B6 M.outs.length d6))).setCell ⟨w3.heap.size, 9, none⟩ (.int .i64 M.count)).frozen? ⟨w.heap.size, oo, none⟩ = false := fz_hold hFb_8
          have hBres_9 : Bx ((((((((((w8.setCell ⟨w3.heap.size, 0, none⟩ ((.slice (some ⟨g1, o1, none⟩) 4 c1))).setCell ⟨w3.heap.size, 1, none⟩ (.int .i64 M.pc)).setCell ⟨w3.heap.size, 2, none⟩ ((.slice (some ⟨g2, o2, none⟩) 64 c2))).setCell ⟨w3.heap.size, 3, none⟩ (.int .i64 M.save)).setCell ⟨w3.heap.size, 4, none⟩ (.bool M.lets)).setCell ⟨w3.heap.size, 5, none⟩ (.bool M.waits)).setCell ⟨w3.heap.size, 6, none⟩ (.int .i64 M.halt)).setCell ⟨w3.heap.size, 7, none⟩ ((.slice B5 M.ins.length d5))).setCell ⟨w3.heap.size, 8, none⟩ ((.slice B6 M.outs.length d6))).setCell ⟨w3.heap.size, 9, none⟩ (.int .i64 M.count)) (w.heap.size + 1 + 1) [.slice none 0 0, .int .i64 0, .slice none 0 0, .int .i64 0, .bool false, .bool false, .int .i64 0, .slice none 0 0, .slice none 0 0, .int .i64 0] := Bx.hold hBres_8
          have hFres_9 : ∀ oo, ((((((((((w8.setCell ⟨w3.heap.size, 0, none⟩ ((.slice (some ⟨g1, o1, none⟩) 4 c1))).setCell ⟨w3.heap.size, 1, none⟩ (.int .i64 M.pc)).setCell ⟨w3.heap.size, 2, none⟩ ((.slice (some ⟨g2, o2, none⟩) 64 c2))).setCell ⟨w3.heap.size, 3, none⟩ (.int .i64 M.save)).setCell ⟨w3.heap.size, 4, none⟩ (.bool M.lets)).setCell ⟨w3.heap.size, 5, none⟩ (.bool M.waits)).setCell ⟨w3.heap.size, 6, none⟩ (.int .i64 M.halt)).setCell ⟨w3.heap.size, 7, none⟩ ((.slice B5 M.ins.length d5))).setCell ⟨w3.heap.size, 8, none⟩ ((.slice B6 M.outs.length d6))).setCell ⟨w3.heap.size, 9, none⟩ (.int .i64 M.count)).frozen? ⟨w.heap.size + 1 + 1, oo, none⟩ = false := fz_hold hFres_8
          have hBq_9 : Bx ((((((((((w8.setCell ⟨w3.heap.size, 0, none⟩ ((.slice (some ⟨g1, o1, none⟩) 4 c1))).setCell ⟨w3.heap.size, 1, none⟩ (.int .i64 M.pc)).setCell ⟨w3.heap.size, 2, none⟩ ((.slice (some ⟨g2, o2, none⟩) 64 c2))).setCell ⟨w3.heap.size, 3, none⟩ (.int .i64 M.save)).setCell ⟨w3.heap.size, 4, none⟩ (.bool M.lets)).setCell ⟨w3.heap.size, 5, none⟩ (.bool M.waits)).setCell ⟨w3.heap.size, 6, none⟩ (.int .i64 M.halt)).setCell ⟨w3.heap.size, 7, none⟩ ((.slice B5 M.ins.length d5))).setCell ⟨w3.heap.size, 8, none⟩ ((.slice B6 M.outs.length d6))).setCell ⟨w3.heap.size, 9, none⟩ (.int .i64 M.count)) (q) [(.slice (some ⟨g1, o1, none⟩) 4 c1), .int .i64 M.pc, (.slice (some ⟨g2, o2, none⟩) 64 c2), .int .i64 M.save, .bool M.lets, .bool M.waits, .int .i64 M.halt, (.slice B5 M.ins.length d5), (.slice B6 M.outs.length d6), .int .i64 M.count] := Bx.hold hBq_8
          have hFq_9 : ∀ oo, ((((((((((w8.setCell ⟨w3.heap.size, 0, none⟩ ((.slice (some ⟨g1, o1, none⟩) 4 c1))).setCell ⟨w3.heap.size, 1, none⟩ (.int .i64 M.pc)).setCell ⟨w3.heap.size, 2, none⟩ ((.slice (some ⟨g2, o2, none⟩) 64 c2))).setCell ⟨w3.heap.size, 3, none⟩ (.int .i64 M.save)).setCell ⟨w3.heap.size, 4, none⟩ (.bool M.lets)).setCell ⟨w3.heap.size, 5, none⟩ (.bool M.waits)).setCell ⟨w3.heap.size, 6, none⟩ (.int .i64 M.halt)).setCell ⟨w3.heap.size, 7, none⟩ ((.slice B5 M.ins.length d5))).setCell ⟨w3.heap.size, 8, none⟩ ((.slice B6 M.outs.length d6))).setCell ⟨w3.heap.size, 9, none⟩ (.int .i64 M.count)).frozen? ⟨q, oo, none⟩ = false := fz_hold hFq_8
          have hMq := Mach.sets10 (b := w3.heap.size) hM (by simp) ((.slice (some ⟨g1, o1, none⟩) 4 c1)) (.int .i64 M.pc) ((.slice (some ⟨g2, o2, none⟩) 64 c2)) (.int .i64 M.save) (.bool M.lets) (.bool M.waits) (.int .i64 M.halt) ((.slice B5 M.ins.length d5)) ((.slice B6 M.outs.length d6)) (.int .i64 M.count)
          generalize ((((((((((w8.setCell ⟨w3.heap.size, 0, none⟩ ((.slice (some ⟨g1, o1, none⟩) 4 c1))).setCell ⟨w3.heap.size, 1, none⟩ (.int .i64 M.pc)).setCell ⟨w3.heap.size, 2, none⟩ ((.slice (some ⟨g2, o2, none⟩) 64 c2))).setCell ⟨w3.heap.size, 3, none⟩ (.int .i64 M.save)).setCell ⟨w3.heap.size, 4, none⟩ (.bool M.lets)).setCell ⟨w3.heap.size, 5, none⟩ (.bool M.waits)).setCell ⟨w3.heap.size, 6, none⟩ (.int .i64 M.halt)).setCell ⟨w3.heap.size, 7, none⟩ ((.slice B5 M.ins.length d5))).setCell ⟨w3.heap.size, 8, none⟩ ((.slice B6 M.outs.length d6))).setCell ⟨w3.heap.size, 9, none⟩ (.int .i64 M.count)) = w9 at *
          clear hBx_8 hFx_8 hBb_8 hFb_8 hBres_8 hFres_8 hBq_8 hFq_8 hM
          have hM := hMq
          clear hMq
          go_wp2_with fail
          go_meet
          exact ⟨n, M, B5, B6, d5, d6, rfl, HR4, (by unfold Fits; omega), hGx, hM, he9, (by omega), hBx_9, hFx_9, hBb_9, hFb_9, hBres_9, hFres_9⟩
        · 
          have hk3 : o.kind = 1 ∨ o.kind = 2 ∨ o.kind = 3 := by omega
          have q4 : (o.kind == 4) = false := by simp; omega
          have q5 : (o.kind == 5) = false := by simp; omega
          have q6 : (o.kind == 6) = false := by simp; omega
          have q7 : (o.kind == 7) = false := by simp; omega
          have hx0 := (op_x0 hop).1
          have hy0 := (op_y0 hop).1
          have hwx := gI_word hR.out.words o.x
          have hwy := gI_word hR.out.words o.y
          have HR1 := hide (show rOp b y o = ⟨y.m, y.vals ++ [rWord y.m o (gI y.vals o.x) (gI y.vals o.y)], false⟩ from rOp_word HL.out (by omega))
          have hfw := rWord_word hR.out.ok (o := o) (x := gI y.vals o.x) (y := gI y.vals o.y) (fun e => op_c hop e)
          have hk2 : o.kind = 2 → 0 ≤ o.k ∧ o.k ≤ 3 := fun e => op_r hop (.inl e)
          have hk3_ : o.kind = 3 → 1 ≤ o.k ∧ o.k ≤ 5 := fun e => op_d hop e
          have HK := hide hk3
          clear hk3 h4 h8
          have yx : w3.heap.size < w7.heap.size := by omega
          have xx0 := hBx_7 0 _ rfl
          have xx1 := hBx_7 1 _ rfl
          have xx2 := hBx_7 2 _ rfl
          have xx3 := hBx_7 3 _ rfl
          have xx4 := hBx_7 4 _ rfl
          have xx5 := hBx_7 5 _ rfl
          have xx6 := hBx_7 6 _ rfl
          have xx7 := hBx_7 7 _ rfl
          have xx8 := hBx_7 8 _ rfl
          have xx9 := hBx_7 9 _ rfl
          have fx := hFx_7
          have yo : w6.heap.size < w7.heap.size := by omega
          have xo0 := hBo_7 0 _ rfl
          have xo1 := hBo_7 1 _ rfl
          have xo2 := hBo_7 2 _ rfl
          have xo3 := hBo_7 3 _ rfl
          have xo4 := hBo_7 4 _ rfl
          have fo := hFo_7
          go_upto_region 13 with fail
          have hS : ∀ w', Ext w7 w' → ∀ bb oo, bb < w7.heap.size → w'.cell? ⟨bb, oo, none⟩ = w7.cell? ⟨bb, oo, none⟩ := fun w' hx bb oo hb => hx.cell hb
          refine wp_region_plan (fun w' => Ext w7 w') 10 (.float 0 (.float 1 (.float 2 (.float 3 (.float 4 (.float 6 (.float 7 (.float 8 (.chain 5 (.chain 9 (.tail 10))))))))))) (by kernel_rfl) (by kernel_rfl) (Ext.refl _).drew ?_
          iterate 8 ((refine Plan.float_step (v := ?_) rfl (by rfl) (fun _ _ _ h => h) (fun w' hSw => ?_) ?_; rotate_left; · (go_simp; try with_reducible rfl)); (try simp only [Act.put, List.setIfInBounds_toArray, List.set_cons_zero, List.set_cons_succ]))
          refine Plan.chain_step rfl (fun K hK8 => ?_)
          go_simp
          refine (l5At_any y.vals _ o.x _ hG.drew.sl hx0).mono ?_
          rintro e w' ⟨rfl, rfl⟩
          refine hK8.out _ _ (Ext.refl _).drew ?_
          clear hK8
          (try simp only [Act.put, List.setIfInBounds_toArray, List.set_cons_zero, List.set_cons_succ])
          refine Plan.chain_step rfl (fun K hK8 => ?_)
          go_simp
          refine (l5At_any y.vals _ o.y _ hG.drew.sl hy0).mono ?_
          rintro e w' ⟨rfl, rfl⟩
          refine hK8.out _ _ (Ext.refl _).drew ?_
          clear hK8
          (try simp only [Act.put, List.setIfInBounds_toArray, List.set_cons_zero, List.set_cons_succ])
          refine Plan.tail_step ?_
          simp only [List.drop_succ_cons, List.drop_zero]
          clear hS
          clear xx0 xx1 xx2 xx3 xx4 xx5 xx6 xx7 xx8 xx9 yx
          clear fx
          clear xo0 xo1 xo2 xo3 xo4 yo
          clear fo
          obtain ⟨s1, s2, s3, s4⟩ := hM.drew.sls
          go_wp2_with fail
          refine (l6Word_any y.m o _ _ _ _ _ _ _ s1 s2 s3 s4 hR.out.ok HK.out hk2 hk3_ (wordB_yes hwx.1 hwx.2) (wordB_yes hwy.1 hwy.2)).mono ?_
          rintro e w5 ⟨rfl, hy⟩
          have hy5 : Ext w7 w5 := Ext.trans Ext.auto hy
          have hsy := hy5.size
          clear hy s1 s2 s3 s4
          go_wp2_with fail
          go_meet
          exact ⟨_, y.m, B3, B4, d3, d4, rfl, HR1, (by unfold Fits; omega), hG.ext hy5, hM.ext hy5, he7.trans hy5, hsy, hy5.bx hBx_7 (by omega), fun oo => (hy5.frozen (by omega)).trans (hFx_7 oo), hy5.bx hBb_7 (by omega), fun oo => (hy5.frozen (by omega)).trans (hFb_7 oo), hy5.bx hBres_7 (by omega), fun oo => (hy5.frozen (by omega)).trans (hFres_7 oo)⟩
      clear hM hG hnX hnV hneX hfoot
      obtain ⟨n, M, B5, B6, d5, d6, rfl, HR9, hfit, hG, hM, he8, hs8, hBx_8, hFx_8, hBb_8, hFb_8, hBres_8, hFres_8⟩ := hcut
      obtain ⟨w8, hwc⟩ : ∃ w8 : World, w8 = wc := ⟨_, rfl⟩
      subst hwc
      try clear hBx_7 hFx_7 hBb_7 hFb_7 hBres_7 hFres_7 hBo_7 hFo_7
      have hneX : ∀ q, (Value.ownBlock (.slice A7 y.vals.length c7)) = some q → q ≠ w3.heap.size := fun q hq e => by have := (hG.lt q hq).1; omega
      have hne_b : ∀ q, (Value.ownBlock (.slice A7 y.vals.length c7)) = some q → q ≠ w.heap.size := fun q hq e => by have := (hG.lt q hq).1; omega
      have hne_res : ∀ q, (Value.ownBlock (.slice A7 y.vals.length c7)) = some q → q ≠ w.heap.size + 1 + 1 := fun q hq e => by have := (hG.lt q hq).1; omega
      have hGq := hG.lt
      obtain ⟨wa, Fs, xs, h00, hA⟩ := hG
      have hAf := hA.flat
      unfold maxLen at hm7
      have hyl48 : y.vals.length ≤ 48 := by have := hyl.out; omega
      go_upto_region 9 with (at_builtin; go_must (refine wpList_append_push2 (α := Int) (w0 := wa) (wr := w8) rfl _ _ 41 rfl i0 _ 8 Try.underlying41 HI.out HZ0.out HZ1.out HZ2.out rfl (by decide) hA.app rfl n #[.int .i64 n] 3 [] _ rfl Ext.auto ⟨⟨rfl, hfit⟩, rfl⟩ (Fr.nil _ _) (by repeat (first | (exact fun _ h => absurd h (List.not_mem_nil)) | (refine List.forall_mem_cons.2 ⟨rfl, ?_⟩))) (by unfold maxLen; omega) (by omega) ?_); intro v' wq9 xs' hA9 hg9 hb9; have hG9 := Gro.pushG h00 (fun q hq => (hGq q hq).1) (by simp; omega) hAf hA9 hb9; have hy9 := Grew.of_grown (w := w8) (w' := (w8.alloc (.cells #[.int .i64 n] 3))) Ext.auto hg9 rfl hb9 []; clear hA9 hg9 hb9; obtain ⟨L1, hL1⟩ : ∃ L1, L1 = y.vals ++ [n] := ⟨_, rfl⟩; rw [← hL1] at hG9; have HL1 := hide hL1; clear hL1; obtain ⟨A9, c9, rfl, -, -⟩ := hG9.form)
      obtain ⟨w9, hw9⟩ : ∃ w9 : World, w9 = wq9 := ⟨_, rfl⟩
      subst hw9
      have hs9 := hy9.size
      have he9 : Ext w w9 := hy9.toExt he8 (by simp) (fun q hq => by have := (hGq q hq).1; omega)
      replace hM := hM.grew hy9 (fun q hq => (hG9.lt q hq).2)
      have hBx_9 : Bx w9 (w3.heap.size) [(.slice (some ⟨g1, o1, none⟩) 4 c1), .int .i64 M.pc, (.slice (some ⟨g2, o2, none⟩) 64 c2), .int .i64 M.save, .bool M.lets, .bool M.waits, .int .i64 M.halt, (.slice B5 M.ins.length d5), (.slice B6 M.outs.length d6), .int .i64 M.count] := hy9.bx hBx_8 (by omega) (by simp) hneX
      have hFx_9 := hy9.fz hFx_8 (by omega) (by simp) hneX
      have hBb_9 : Bx w9 (w.heap.size) [.int .i64 b.pc, .int .i64 b.len, (.slice (some ⟨bb, off, none⟩) b.ops.length cb1), .int .i64 b.fin, .int .i64 b.x, .int .i64 b.y, .int .i64 b.k] := hy9.bx hBb_8 (by omega) (by simp) hne_b
      have hFb_9 := hy9.fz hFb_8 (by omega) (by simp) hne_b
      have hBres_9 : Bx w9 (w.heap.size + 1 + 1) [.slice none 0 0, .int .i64 0, .slice none 0 0, .int .i64 0, .bool false, .bool false, .int .i64 0, .slice none 0 0, .slice none 0 0, .int .i64 0] := hy9.bx hBres_8 (by omega) (by simp) hne_res
      have hFres_9 := hy9.fz hFres_8 (by omega) (by simp) hne_res
      have HZ := hide (show rTo b m (k + 1) = ⟨M, L1, false⟩ by rw [HO.out, HR9.out, HL1.out])
      go_wp2_with fail
      go_round
      case rel => exact ⟨k + 1, ⟨M, L1, false⟩, B5, B6, d5, d6, by go_num, by omega, HZ, hide rfl, hG9, hM, he9, by omega, hBx_9, hFx_9, hBb_9, hFb_9, hBres_9, hFres_9⟩
      case measure => (simp [intOf]; try omega)
    · 
      have q1 : decide ((k : Int) < (b.ops.length : Int)) = false := decide_eq_false (by omega)
      obtain rfl : k = b.ops.length := by omega
      have hcnt := hR.out.count
      have hpcq := hR.out.pc
      have hcc : 0 ≤ y.m.count ∧ y.m.count ≤ 1000000 - b.len := by have := hk.c0; omega
      have HVe := hide (show irRun b m = { y.m with pc := rGo b y.vals, count := y.m.count + b.len } by rw [HV.out, HY.out]; unfold rEnd; rw [if_neg (by rw [HL.out]; simp)])
      have zw2 : IntKind.i64.wrap (y.m.count + b.len) = y.m.count + b.len := by rw [IntKind.wrap_i64]; omega
      clear hcnt hpcq HV
      have HV := HVe
      clear HVe
      have yb : w.heap.size < w6.heap.size := by omega
      have xb0 := hBb_6 0 _ rfl
      have xb1 := hBb_6 1 _ rfl
      have xb2 := hBb_6 2 _ rfl
      have xb3 := hBb_6 3 _ rfl
      have xb4 := hBb_6 4 _ rfl
      have xb5 := hBb_6 5 _ rfl
      have xb6 := hBb_6 6 _ rfl
      have fb := hFb_6
      go_wp2_with fail
      clear xb0 xb1 xb2 xb3 xb4 xb5 xb6 yb
      clear fb
      refine (l6Go_any b y.vals _ _ _ hG.sl (ok_end hbk.out) hyl.out (by omega) (by omega)).mono ?_
      rintro e w7 ⟨rfl, hy⟩
      have hs7 := hy.size
      try simp at hs7
      have he7 : Ext w w7 := Ext.trans (Ext.hold he6) hy
      have hBx_7 : Bx w7 (w3.heap.size) [(.slice (some ⟨g1, o1, none⟩) 4 c1), .int .i64 y.m.pc, (.slice (some ⟨g2, o2, none⟩) 64 c2), .int .i64 y.m.save, .bool y.m.lets, .bool y.m.waits, .int .i64 y.m.halt, (.slice B3 y.m.ins.length d3), (.slice B4 y.m.outs.length d4), .int .i64 y.m.count] := hy.bx (Bx.hold hBx_6) (by first | omega | (simp; done) | (simp; omega))
      have hFx_7 : ∀ oo, w7.frozen? ⟨w3.heap.size, oo, none⟩ = false := fun oo => (hy.frozen (by first | omega | (simp; done) | (simp; omega))).trans ((fz_hold hFx_6) oo)
      have hBb_7 : Bx w7 (w.heap.size) [.int .i64 b.pc, .int .i64 b.len, (.slice Ab1 b.ops.length cb1), .int .i64 b.fin, .int .i64 b.x, .int .i64 b.y, .int .i64 b.k] := hy.bx (Bx.hold hBb_6) (by first | omega | (simp; done) | (simp; omega))
      have hFb_7 : ∀ oo, w7.frozen? ⟨w.heap.size, oo, none⟩ = false := fun oo => (hy.frozen (by first | omega | (simp; done) | (simp; omega))).trans ((fz_hold hFb_6) oo)
      have hBres_7 : Bx w7 (w.heap.size + 1 + 1) [.slice none 0 0, .int .i64 0, .slice none 0 0, .int .i64 0, .bool false, .bool false, .int .i64 0, .slice none 0 0, .slice none 0 0, .int .i64 0] := hy.bx (Bx.hold hBres_6) (by first | omega | (simp; done) | (simp; omega))
      have hFres_7 : ∀ oo, w7.frozen? ⟨w.heap.size + 1 + 1, oo, none⟩ = false := fun oo => (hy.frozen (by first | omega | (simp; done) | (simp; omega))).trans ((fz_hold hFres_6) oo)
      try clear hBx_6 hFx_6 hBb_6 hFb_6 hBres_6 hFres_6
      have hM9 := hM.ext hy
      clear hM hG hy
      have yb : w.heap.size < w7.heap.size := by omega
      have xb0 := hBb_7 0 _ rfl
      have xb1 := hBb_7 1 _ rfl
      have xb2 := hBb_7 2 _ rfl
      have xb3 := hBb_7 3 _ rfl
      have xb4 := hBb_7 4 _ rfl
      have xb5 := hBb_7 5 _ rfl
      have xb6 := hBb_7 6 _ rfl
      have fb := hFb_7
      have yx : w3.heap.size < w7.heap.size := by omega
      have xx0 := hBx_7 0 _ rfl
      have xx1 := hBx_7 1 _ rfl
      have xx2 := hBx_7 2 _ rfl
      have xx3 := hBx_7 3 _ rfl
      have xx4 := hBx_7 4 _ rfl
      have xx5 := hBx_7 5 _ rfl
      have xx6 := hBx_7 6 _ rfl
      have xx7 := hBx_7 7 _ rfl
      have xx8 := hBx_7 8 _ rfl
      have xx9 := hBx_7 9 _ rfl
      have fx := hFx_7
      go_upto_region 28 with fail
      clear xb0 xb1 xb2 xb3 xb4 xb5 xb6 yb
      clear fb
      clear xx0 xx1 xx2 xx3 xx4 xx5 xx6 xx7 xx8 xx9 yx
      clear fx
      have hBx_8 : Bx ((w7.setCell ⟨w3.heap.size, 1, none⟩ (.int .i64 (rGo b y.vals))).setCell ⟨w3.heap.size, 9, none⟩ (.int .i64 (y.m.count + b.len))) (w3.heap.size) [(.slice (some ⟨g1, o1, none⟩) 4 c1), .int .i64 (rGo b y.vals), (.slice (some ⟨g2, o2, none⟩) 64 c2), .int .i64 y.m.save, .bool y.m.lets, .bool y.m.waits, .int .i64 y.m.halt, (.slice B3 y.m.ins.length d3), (.slice B4 y.m.outs.length d4), .int .i64 (y.m.count + b.len)] := by have := Bx.put (Bx.put hBx_7 (j := 1) (by simp) (.int .i64 (rGo b y.vals))) (j := 9) (by simp) (.int .i64 (y.m.count + b.len)); simpa using this
      have hFx_8 : ∀ oo, ((w7.setCell ⟨w3.heap.size, 1, none⟩ (.int .i64 (rGo b y.vals))).setCell ⟨w3.heap.size, 9, none⟩ (.int .i64 (y.m.count + b.len))).frozen? ⟨w3.heap.size, oo, none⟩ = false := fz_hold hFx_7
      have hBres_8 : Bx ((w7.setCell ⟨w3.heap.size, 1, none⟩ (.int .i64 (rGo b y.vals))).setCell ⟨w3.heap.size, 9, none⟩ (.int .i64 (y.m.count + b.len))) (w.heap.size + 1 + 1) [.slice none 0 0, .int .i64 0, .slice none 0 0, .int .i64 0, .bool false, .bool false, .int .i64 0, .slice none 0 0, .slice none 0 0, .int .i64 0] := Bx.hold hBres_7
      have hFres_8 : ∀ oo, ((w7.setCell ⟨w3.heap.size, 1, none⟩ (.int .i64 (rGo b y.vals))).setCell ⟨w3.heap.size, 9, none⟩ (.int .i64 (y.m.count + b.len))).frozen? ⟨w.heap.size + 1 + 1, oo, none⟩ = false := fz_hold hFres_7
      have he8 : Ext w ((w7.setCell ⟨w3.heap.size, 1, none⟩ (.int .i64 (rGo b y.vals))).setCell ⟨w3.heap.size, 9, none⟩ (.int .i64 (y.m.count + b.len))) := Ext.hold he7
      have hs8 : w7.heap.size ≤ (((w7.setCell ⟨w3.heap.size, 1, none⟩ (.int .i64 (rGo b y.vals))).setCell ⟨w3.heap.size, 9, none⟩ (.int .i64 (y.m.count + b.len)))).heap.size := by simp
      have hM8 := ((hM9.far (p := ⟨w3.heap.size, 1, none⟩) (by simp) (.int .i64 (rGo b y.vals))).far (p := ⟨w3.heap.size, 9, none⟩) (by simp) (.int .i64 (y.m.count + b.len))).same (m' := ({ y.m with pc := rGo b y.vals, count := y.m.count + b.len } : MchMach)) rfl rfl rfl rfl
      clear hM9
      generalize ((w7.setCell ⟨w3.heap.size, 1, none⟩ (.int .i64 (rGo b y.vals))).setCell ⟨w3.heap.size, 9, none⟩ (.int .i64 (y.m.count + b.len))) = w8 at *
      clear hBx_7 hFx_7 hBb_7 hFb_7 hBres_7 hFres_7
      have yx : w3.heap.size < w8.heap.size := by omega
      have xx0 := hBx_8 0 _ rfl
      have xx1 := hBx_8 1 _ rfl
      have xx2 := hBx_8 2 _ rfl
      have xx3 := hBx_8 3 _ rfl
      have xx4 := hBx_8 4 _ rfl
      have xx5 := hBx_8 5 _ rfl
      have xx6 := hBx_8 6 _ rfl
      have xx7 := hBx_8 7 _ rfl
      have xx8 := hBx_8 8 _ rfl
      have xx9 := hBx_8 9 _ rfl
      have fx := hFx_8
      obtain ⟨F1, F2, F3, F4, hO1, hO2, hO3, hO4, hFr⟩ := Mach.out hM8 (w0 := w2) (Nat.le_refl _)
      have yres : w.heap.size + 1 + 1 < w8.heap.size := by omega
      have xres0 := hBres_8 0 _ rfl
      have xres1 := hBres_8 1 _ rfl
      have xres2 := hBres_8 2 _ rfl
      have xres3 := hBres_8 3 _ rfl
      have xres4 := hBres_8 4 _ rfl
      have xres5 := hBres_8 5 _ rfl
      have xres6 := hBres_8 6 _ rfl
      have xres7 := hBres_8 7 _ rfl
      have xres8 := hBres_8 8 _ rfl
      have xres9 := hBres_8 9 _ rfl
      have fres := hFres_8
      go_wp2
      refine bodyPost_ret (v := .tuple #[.agg #[(.slice (some ⟨g1, o1, none⟩) 4 c1), .int .i64 (({ y.m with pc := rGo b y.vals, count := y.m.count + b.len } : MchMach).pc), (.slice (some ⟨g2, o2, none⟩) 64 c2), .int .i64 (({ y.m with pc := rGo b y.vals, count := y.m.count + b.len } : MchMach).save), .bool ({ y.m with pc := rGo b y.vals, count := y.m.count + b.len } : MchMach).lets, .bool ({ y.m with pc := rGo b y.vals, count := y.m.count + b.len } : MchMach).waits, .int .i64 (({ y.m with pc := rGo b y.vals, count := y.m.count + b.len } : MchMach).halt), (.slice B3 y.m.ins.length d3), (.slice B4 y.m.outs.length d4), .int .i64 (({ y.m with pc := rGo b y.vals, count := y.m.count + b.len } : MchMach).count)], .bool true]) (by simp [results, Try.results23, go_sem, xres0, xres1, xres2, xres3, xres4, xres5, xres6, xres7, xres8, xres9]) rfl ?_
      unfold IrPost
      rw [HV.out, HW.out]
      refine ⟨(.slice (some ⟨g1, o1, none⟩) 4 c1), (.slice (some ⟨g2, o2, none⟩) 64 c2), (.slice B3 y.m.ins.length d3), (.slice B4 y.m.outs.length d4), F1, F2, F3, F4, rfl, ?_, ?_, ?_, ?_, ?_, Ext.hold he8⟩
      · exact OwnSl.stay hO1 (fun z hb => by
          have q := hFr.2 z (by simp [hb]); have q1 := q.1; have q2 := q.2
          repeat (first | rw [heap_set _ _ _ _ (by show _ ≠ z; omega)] | rw [heap_set _ _ _ _ (by simp; omega)]))
      · exact OwnSl.stay hO2 (fun z hb => by
          have q := hFr.2 z (by simp [hb]); have q1 := q.1; have q2 := q.2
          repeat (first | rw [heap_set _ _ _ _ (by show _ ≠ z; omega)] | rw [heap_set _ _ _ _ (by simp; omega)]))
      · exact OwnSl.stay hO3 (fun z hb => by
          have q := hFr.2 z (by simp [hb]); have q1 := q.1; have q2 := q.2
          repeat (first | rw [heap_set _ _ _ _ (by show _ ≠ z; omega)] | rw [heap_set _ _ _ _ (by simp; omega)]))
      · exact OwnSl.stay hO4 (fun z hb => by
          have q := hFr.2 z (by simp [hb]); have q1 := q.1; have q2 := q.2
          repeat (first | rw [heap_set _ _ _ _ (by show _ ≠ z; omega)] | rw [heap_set _ _ _ _ (by simp; omega)]))
      · exact hFr.mk1 (by first | omega | (simp; done) | (simp; omega)) (by first | omega | (simp; done) | (simp; omega))

end Go.Proofs.Yteaacelfnkiboaa
