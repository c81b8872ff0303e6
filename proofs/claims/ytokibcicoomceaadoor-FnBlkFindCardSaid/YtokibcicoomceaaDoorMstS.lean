/-
  A step, a run of a machine: the reference.
-/
import Derived.Test.YtokibcicoomceaaDoorMstLib
import Derived.Test.YtokibcicoomceaaDoorStepD
import Derived.Deep.DeepCutAuto
namespace Go.Proofs.YtokibcicoomceaaDoor
open Go.RowKit

set_option linter.unusedVariables false
set_option linter.unusedSimpArgs false
set_option maxRecDepth 100000

set_option maxHeartbeats 64000000 in
theorem specMchStep_any (m : MchMach) (irq : Bool) (vm1 vm2 vm3 vm4 : Value) (w : World) (hm1 : Sl w (Old w) vm1 m.regs) (hm2 : Sl w (Old w) vm2 m.mem) (hm3 : Sl w (Old w) vm3 m.ins) (hm4 : Sl w (Old w) vm4 m.outs) (hn1 : m.regs.length ≤ 4194304) (hn2 : m.mem.length ≤ 4194304) (hn3 : m.ins.length ≤ 4194304) (hn4 : m.outs.length ≤ 4194304) :
    Calls Tryd.prog 106 #[.agg #[vm1, .int .i64 m.pc, vm2, .int .i64 m.save, .bool m.lets, .bool m.waits, .int .i64 m.halt, vm3, vm4, .int .i64 m.count], .bool irq] w fun e w' => ∃ (r1 r2 r3 r4 : Value), e = .returned (.agg #[r1, .int .i64 ((mStep m irq).pc), r2, .int .i64 ((mStep m irq).save), .bool (mStep m irq).lets, .bool (mStep m irq).waits, .int .i64 ((mStep m irq).halt), r3, r4, .int .i64 ((mStep m irq).count)]) ∧ Own4C 3 [] w.heap.size w' r1 r2 r3 r4 (mStep m irq) ∧ Ext w w' := by
  obtain ⟨Am1, cm1, rfl, hlm1, hmm1⟩ := hm1.form
  obtain ⟨Am2, cm2, rfl, hlm2, hmm2⟩ := hm2.form
  obtain ⟨Am3, cm3, rfl, hlm3, hmm3⟩ := hm3.form
  obtain ⟨Am4, cm4, rfl, hlm4, hmm4⟩ := hm4.form
  cases q0 : mchOkB m
  · 
    have HV := hide (mStep_no q0 irq)
    go_enter Tryd.func106, Tryd.ntmps106
    go_upto_region 1 with fail
    have he0 : Ext w ((w.alloc (Obj.cells #[(.slice Am1 m.regs.length cm1), .int .i64 m.pc, (.slice Am2 m.mem.length cm2), .int .i64 m.save, .bool m.lets, .bool m.waits, .int .i64 m.halt, (.slice Am3 m.ins.length cm3), (.slice Am4 m.outs.length cm4), .int .i64 m.count] 51)).alloc (Obj.cells #[.slice none 0 0, .int .i64 0, .slice none 0 0, .int .i64 0, .bool false, .bool false, .int .i64 0, .slice none 0 0, .slice none 0 0, .int .i64 0] 51)) := (Ext.auto)
    have hs0 : w.heap.size + 2 ≤ (((w.alloc (Obj.cells #[(.slice Am1 m.regs.length cm1), .int .i64 m.pc, (.slice Am2 m.mem.length cm2), .int .i64 m.save, .bool m.lets, .bool m.waits, .int .i64 m.halt, (.slice Am3 m.ins.length cm3), (.slice Am4 m.outs.length cm4), .int .i64 m.count] 51)).alloc (Obj.cells #[.slice none 0 0, .int .i64 0, .slice none 0 0, .int .i64 0, .bool false, .bool false, .int .i64 0, .slice none 0 0, .slice none 0 0, .int .i64 0] 51))).heap.size := by simp
    have hq0 := hide (show (((w.alloc (Obj.cells #[(.slice Am1 m.regs.length cm1), .int .i64 m.pc, (.slice Am2 m.mem.length cm2), .int .i64 m.save, .bool m.lets, .bool m.waits, .int .i64 m.halt, (.slice Am3 m.ins.length cm3), (.slice Am4 m.outs.length cm4), .int .i64 m.count] 51)).alloc (Obj.cells #[.slice none 0 0, .int .i64 0, .slice none 0 0, .int .i64 0, .bool false, .bool false, .int .i64 0, .slice none 0 0, .slice none 0 0, .int .i64 0] 51))).heap.size = w.heap.size + 2 by simp)
    have hBm_0 : Bx ((w.alloc (Obj.cells #[(.slice Am1 m.regs.length cm1), .int .i64 m.pc, (.slice Am2 m.mem.length cm2), .int .i64 m.save, .bool m.lets, .bool m.waits, .int .i64 m.halt, (.slice Am3 m.ins.length cm3), (.slice Am4 m.outs.length cm4), .int .i64 m.count] 51)).alloc (Obj.cells #[.slice none 0 0, .int .i64 0, .slice none 0 0, .int .i64 0, .bool false, .bool false, .int .i64 0, .slice none 0 0, .slice none 0 0, .int .i64 0] 51)) (w.heap.size) [(.slice Am1 m.regs.length cm1), .int .i64 m.pc, (.slice Am2 m.mem.length cm2), .int .i64 m.save, .bool m.lets, .bool m.waits, .int .i64 m.halt, (.slice Am3 m.ins.length cm3), (.slice Am4 m.outs.length cm4), .int .i64 m.count] := (by have := (Bx.alloc (Bx.new w #[(.slice Am1 m.regs.length cm1), .int .i64 m.pc, (.slice Am2 m.mem.length cm2), .int .i64 m.save, .bool m.lets, .bool m.waits, .int .i64 m.halt, (.slice Am3 m.ins.length cm3), (.slice Am4 m.outs.length cm4), .int .i64 m.count] 51) (by simp) #[.slice none 0 0, .int .i64 0, .slice none 0 0, .int .i64 0, .bool false, .bool false, .int .i64 0, .slice none 0 0, .slice none 0 0, .int .i64 0] 51); simpa using this)
    have hFm_0 : ∀ oo, (((w.alloc (Obj.cells #[(.slice Am1 m.regs.length cm1), .int .i64 m.pc, (.slice Am2 m.mem.length cm2), .int .i64 m.save, .bool m.lets, .bool m.waits, .int .i64 m.halt, (.slice Am3 m.ins.length cm3), (.slice Am4 m.outs.length cm4), .int .i64 m.count] 51)).alloc (Obj.cells #[.slice none 0 0, .int .i64 0, .slice none 0 0, .int .i64 0, .bool false, .bool false, .int .i64 0, .slice none 0 0, .slice none 0 0, .int .i64 0] 51))).frozen? ⟨w.heap.size, oo, none⟩ = false := fun oo => by simp
    have hBres_0 : Bx ((w.alloc (Obj.cells #[(.slice Am1 m.regs.length cm1), .int .i64 m.pc, (.slice Am2 m.mem.length cm2), .int .i64 m.save, .bool m.lets, .bool m.waits, .int .i64 m.halt, (.slice Am3 m.ins.length cm3), (.slice Am4 m.outs.length cm4), .int .i64 m.count] 51)).alloc (Obj.cells #[.slice none 0 0, .int .i64 0, .slice none 0 0, .int .i64 0, .bool false, .bool false, .int .i64 0, .slice none 0 0, .slice none 0 0, .int .i64 0] 51)) (w.heap.size + 1) [.slice none 0 0, .int .i64 0, .slice none 0 0, .int .i64 0, .bool false, .bool false, .int .i64 0, .slice none 0 0, .slice none 0 0, .int .i64 0] := (by have := (Bx.new (w.alloc (Obj.cells #[(.slice Am1 m.regs.length cm1), .int .i64 m.pc, (.slice Am2 m.mem.length cm2), .int .i64 m.save, .bool m.lets, .bool m.waits, .int .i64 m.halt, (.slice Am3 m.ins.length cm3), (.slice Am4 m.outs.length cm4), .int .i64 m.count] 51)) #[.slice none 0 0, .int .i64 0, .slice none 0 0, .int .i64 0, .bool false, .bool false, .int .i64 0, .slice none 0 0, .slice none 0 0, .int .i64 0] 51); simpa using this)
    have hFres_0 : ∀ oo, (((w.alloc (Obj.cells #[(.slice Am1 m.regs.length cm1), .int .i64 m.pc, (.slice Am2 m.mem.length cm2), .int .i64 m.save, .bool m.lets, .bool m.waits, .int .i64 m.halt, (.slice Am3 m.ins.length cm3), (.slice Am4 m.outs.length cm4), .int .i64 m.count] 51)).alloc (Obj.cells #[.slice none 0 0, .int .i64 0, .slice none 0 0, .int .i64 0, .bool false, .bool false, .int .i64 0, .slice none 0 0, .slice none 0 0, .int .i64 0] 51))).frozen? ⟨w.heap.size + 1, oo, none⟩ = false := fun oo => by simp
    generalize ((w.alloc (Obj.cells #[(.slice Am1 m.regs.length cm1), .int .i64 m.pc, (.slice Am2 m.mem.length cm2), .int .i64 m.save, .bool m.lets, .bool m.waits, .int .i64 m.halt, (.slice Am3 m.ins.length cm3), (.slice Am4 m.outs.length cm4), .int .i64 m.count] 51)).alloc (Obj.cells #[.slice none 0 0, .int .i64 0, .slice none 0 0, .int .i64 0, .bool false, .bool false, .int .i64 0, .slice none 0 0, .slice none 0 0, .int .i64 0] 51)) = w0 at *
    have ym : w.heap.size < w0.heap.size := by omega
    have xm0 := hBm_0 0 _ rfl
    have xm1 := hBm_0 1 _ rfl
    have xm2 := hBm_0 2 _ rfl
    have xm3 := hBm_0 3 _ rfl
    have xm4 := hBm_0 4 _ rfl
    have xm5 := hBm_0 5 _ rfl
    have xm6 := hBm_0 6 _ rfl
    have xm7 := hBm_0 7 _ rfl
    have xm8 := hBm_0 8 _ rfl
    have xm9 := hBm_0 9 _ rfl
    have fm := hFm_0
    have yres : w.heap.size + 1 < w0.heap.size := by omega
    have xres0 := hBres_0 0 _ rfl
    have xres1 := hBres_0 1 _ rfl
    have xres2 := hBres_0 2 _ rfl
    have xres3 := hBres_0 3 _ rfl
    have xres4 := hBres_0 4 _ rfl
    have xres5 := hBres_0 5 _ rfl
    have xres6 := hBres_0 6 _ rfl
    have xres7 := hBres_0 7 _ rfl
    have xres8 := hBres_0 8 _ rfl
    have xres9 := hBres_0 9 _ rfl
    have fres := hFres_0
    go_wp2_with fail
    refine (specMchOk_any m _ _ _ _ _ (hm1.ext he0) (hm2.ext he0) (hm3.ext he0) (hm4.ext he0)).mono ?_
    rintro e w1 ⟨rfl, hy⟩
    simp only [q0]
    clear xm0 xm1 xm2 xm3 xm4 xm5 xm6 xm7 xm8 xm9 ym
    clear fm
    clear xres0 xres1 xres2 xres3 xres4 xres5 xres6 xres7 xres8 xres9 yres
    clear fres
    have hs1 := hy.size
    try simp at hs1
    have he1 : Ext w w1 := Ext.trans (Ext.hold he0) hy
    have hBm_1 : Bx w1 (w.heap.size) [(.slice Am1 m.regs.length cm1), .int .i64 m.pc, (.slice Am2 m.mem.length cm2), .int .i64 m.save, .bool m.lets, .bool m.waits, .int .i64 m.halt, (.slice Am3 m.ins.length cm3), (.slice Am4 m.outs.length cm4), .int .i64 m.count] := hy.bx (Bx.hold hBm_0) (by first | omega | (simp; done) | (simp; omega))
    have hFm_1 : ∀ oo, w1.frozen? ⟨w.heap.size, oo, none⟩ = false := fun oo => (hy.frozen (by first | omega | (simp; done) | (simp; omega))).trans ((fz_hold hFm_0) oo)
    have hBres_1 : Bx w1 (w.heap.size + 1) [.slice none 0 0, .int .i64 0, .slice none 0 0, .int .i64 0, .bool false, .bool false, .int .i64 0, .slice none 0 0, .slice none 0 0, .int .i64 0] := hy.bx (Bx.hold hBres_0) (by first | omega | (simp; done) | (simp; omega))
    have hFres_1 : ∀ oo, w1.frozen? ⟨w.heap.size + 1, oo, none⟩ = false := fun oo => (hy.frozen (by first | omega | (simp; done) | (simp; omega))).trans ((fz_hold hFres_0) oo)
    try clear hBm_0 hFm_0 hBres_0 hFres_0
    clear hy
    have yres : w.heap.size + 1 < w1.heap.size := by omega
    have xres0 := hBres_1 0 _ rfl
    have xres1 := hBres_1 1 _ rfl
    have xres2 := hBres_1 2 _ rfl
    have xres3 := hBres_1 3 _ rfl
    have xres4 := hBres_1 4 _ rfl
    have xres5 := hBres_1 5 _ rfl
    have xres6 := hBres_1 6 _ rfl
    have xres7 := hBres_1 7 _ rfl
    have xres8 := hBres_1 8 _ rfl
    have xres9 := hBres_1 9 _ rfl
    have fres := hFres_1
    go_wp2
    refine bodyPost_ret (v := .agg #[.slice none 0 0, .int .i64 0, .slice none 0 0, .int .i64 0, .bool false, .bool false, .int .i64 0, .slice none 0 0, .slice none 0 0, .int .i64 0]) (by simp [results, Tryd.results106, go_sem, xres0, xres1, xres2, xres3, xres4, xres5, xres6, xres7, xres8, xres9]) rfl ⟨.slice none 0 0, .slice none 0 0, .slice none 0 0, .slice none 0 0, by rw [HV.out]; rfl, by rw [HV.out]; exact Own4C.nil _ _ _, Ext.hold he1⟩
  · 
    have hk := mOk_iff.1 q0
    have H0 := hide q0
    go_enter Tryd.func106, Tryd.ntmps106
    go_upto_region 1 with fail
    have he0 : Ext w ((w.alloc (Obj.cells #[(.slice Am1 m.regs.length cm1), .int .i64 m.pc, (.slice Am2 m.mem.length cm2), .int .i64 m.save, .bool m.lets, .bool m.waits, .int .i64 m.halt, (.slice Am3 m.ins.length cm3), (.slice Am4 m.outs.length cm4), .int .i64 m.count] 51)).alloc (Obj.cells #[.slice none 0 0, .int .i64 0, .slice none 0 0, .int .i64 0, .bool false, .bool false, .int .i64 0, .slice none 0 0, .slice none 0 0, .int .i64 0] 51)) := (Ext.auto)
    have hs0 : w.heap.size + 2 ≤ (((w.alloc (Obj.cells #[(.slice Am1 m.regs.length cm1), .int .i64 m.pc, (.slice Am2 m.mem.length cm2), .int .i64 m.save, .bool m.lets, .bool m.waits, .int .i64 m.halt, (.slice Am3 m.ins.length cm3), (.slice Am4 m.outs.length cm4), .int .i64 m.count] 51)).alloc (Obj.cells #[.slice none 0 0, .int .i64 0, .slice none 0 0, .int .i64 0, .bool false, .bool false, .int .i64 0, .slice none 0 0, .slice none 0 0, .int .i64 0] 51))).heap.size := by simp
    have hq0 := hide (show (((w.alloc (Obj.cells #[(.slice Am1 m.regs.length cm1), .int .i64 m.pc, (.slice Am2 m.mem.length cm2), .int .i64 m.save, .bool m.lets, .bool m.waits, .int .i64 m.halt, (.slice Am3 m.ins.length cm3), (.slice Am4 m.outs.length cm4), .int .i64 m.count] 51)).alloc (Obj.cells #[.slice none 0 0, .int .i64 0, .slice none 0 0, .int .i64 0, .bool false, .bool false, .int .i64 0, .slice none 0 0, .slice none 0 0, .int .i64 0] 51))).heap.size = w.heap.size + 2 by simp)
    have hBm_0 : Bx ((w.alloc (Obj.cells #[(.slice Am1 m.regs.length cm1), .int .i64 m.pc, (.slice Am2 m.mem.length cm2), .int .i64 m.save, .bool m.lets, .bool m.waits, .int .i64 m.halt, (.slice Am3 m.ins.length cm3), (.slice Am4 m.outs.length cm4), .int .i64 m.count] 51)).alloc (Obj.cells #[.slice none 0 0, .int .i64 0, .slice none 0 0, .int .i64 0, .bool false, .bool false, .int .i64 0, .slice none 0 0, .slice none 0 0, .int .i64 0] 51)) (w.heap.size) [(.slice Am1 m.regs.length cm1), .int .i64 m.pc, (.slice Am2 m.mem.length cm2), .int .i64 m.save, .bool m.lets, .bool m.waits, .int .i64 m.halt, (.slice Am3 m.ins.length cm3), (.slice Am4 m.outs.length cm4), .int .i64 m.count] := (by have := (Bx.alloc (Bx.new w #[(.slice Am1 m.regs.length cm1), .int .i64 m.pc, (.slice Am2 m.mem.length cm2), .int .i64 m.save, .bool m.lets, .bool m.waits, .int .i64 m.halt, (.slice Am3 m.ins.length cm3), (.slice Am4 m.outs.length cm4), .int .i64 m.count] 51) (by simp) #[.slice none 0 0, .int .i64 0, .slice none 0 0, .int .i64 0, .bool false, .bool false, .int .i64 0, .slice none 0 0, .slice none 0 0, .int .i64 0] 51); simpa using this)
    have hFm_0 : ∀ oo, (((w.alloc (Obj.cells #[(.slice Am1 m.regs.length cm1), .int .i64 m.pc, (.slice Am2 m.mem.length cm2), .int .i64 m.save, .bool m.lets, .bool m.waits, .int .i64 m.halt, (.slice Am3 m.ins.length cm3), (.slice Am4 m.outs.length cm4), .int .i64 m.count] 51)).alloc (Obj.cells #[.slice none 0 0, .int .i64 0, .slice none 0 0, .int .i64 0, .bool false, .bool false, .int .i64 0, .slice none 0 0, .slice none 0 0, .int .i64 0] 51))).frozen? ⟨w.heap.size, oo, none⟩ = false := fun oo => by simp
    have hBres_0 : Bx ((w.alloc (Obj.cells #[(.slice Am1 m.regs.length cm1), .int .i64 m.pc, (.slice Am2 m.mem.length cm2), .int .i64 m.save, .bool m.lets, .bool m.waits, .int .i64 m.halt, (.slice Am3 m.ins.length cm3), (.slice Am4 m.outs.length cm4), .int .i64 m.count] 51)).alloc (Obj.cells #[.slice none 0 0, .int .i64 0, .slice none 0 0, .int .i64 0, .bool false, .bool false, .int .i64 0, .slice none 0 0, .slice none 0 0, .int .i64 0] 51)) (w.heap.size + 1) [.slice none 0 0, .int .i64 0, .slice none 0 0, .int .i64 0, .bool false, .bool false, .int .i64 0, .slice none 0 0, .slice none 0 0, .int .i64 0] := (by have := (Bx.new (w.alloc (Obj.cells #[(.slice Am1 m.regs.length cm1), .int .i64 m.pc, (.slice Am2 m.mem.length cm2), .int .i64 m.save, .bool m.lets, .bool m.waits, .int .i64 m.halt, (.slice Am3 m.ins.length cm3), (.slice Am4 m.outs.length cm4), .int .i64 m.count] 51)) #[.slice none 0 0, .int .i64 0, .slice none 0 0, .int .i64 0, .bool false, .bool false, .int .i64 0, .slice none 0 0, .slice none 0 0, .int .i64 0] 51); simpa using this)
    have hFres_0 : ∀ oo, (((w.alloc (Obj.cells #[(.slice Am1 m.regs.length cm1), .int .i64 m.pc, (.slice Am2 m.mem.length cm2), .int .i64 m.save, .bool m.lets, .bool m.waits, .int .i64 m.halt, (.slice Am3 m.ins.length cm3), (.slice Am4 m.outs.length cm4), .int .i64 m.count] 51)).alloc (Obj.cells #[.slice none 0 0, .int .i64 0, .slice none 0 0, .int .i64 0, .bool false, .bool false, .int .i64 0, .slice none 0 0, .slice none 0 0, .int .i64 0] 51))).frozen? ⟨w.heap.size + 1, oo, none⟩ = false := fun oo => by simp
    generalize ((w.alloc (Obj.cells #[(.slice Am1 m.regs.length cm1), .int .i64 m.pc, (.slice Am2 m.mem.length cm2), .int .i64 m.save, .bool m.lets, .bool m.waits, .int .i64 m.halt, (.slice Am3 m.ins.length cm3), (.slice Am4 m.outs.length cm4), .int .i64 m.count] 51)).alloc (Obj.cells #[.slice none 0 0, .int .i64 0, .slice none 0 0, .int .i64 0, .bool false, .bool false, .int .i64 0, .slice none 0 0, .slice none 0 0, .int .i64 0] 51)) = w0 at *
    have ym : w.heap.size < w0.heap.size := by omega
    have xm0 := hBm_0 0 _ rfl
    have xm1 := hBm_0 1 _ rfl
    have xm2 := hBm_0 2 _ rfl
    have xm3 := hBm_0 3 _ rfl
    have xm4 := hBm_0 4 _ rfl
    have xm5 := hBm_0 5 _ rfl
    have xm6 := hBm_0 6 _ rfl
    have xm7 := hBm_0 7 _ rfl
    have xm8 := hBm_0 8 _ rfl
    have xm9 := hBm_0 9 _ rfl
    have fm := hFm_0
    have yres : w.heap.size + 1 < w0.heap.size := by omega
    have xres0 := hBres_0 0 _ rfl
    have xres1 := hBres_0 1 _ rfl
    have xres2 := hBres_0 2 _ rfl
    have xres3 := hBres_0 3 _ rfl
    have xres4 := hBres_0 4 _ rfl
    have xres5 := hBres_0 5 _ rfl
    have xres6 := hBres_0 6 _ rfl
    have xres7 := hBres_0 7 _ rfl
    have xres8 := hBres_0 8 _ rfl
    have xres9 := hBres_0 9 _ rfl
    have fres := hFres_0
    go_wp2_with fail
    refine (specMchOk_any m _ _ _ _ _ (hm1.ext he0) (hm2.ext he0) (hm3.ext he0) (hm4.ext he0)).mono ?_
    rintro e w1 ⟨rfl, hy⟩
    simp only [q0]
    clear q0
    clear xm0 xm1 xm2 xm3 xm4 xm5 xm6 xm7 xm8 xm9 ym
    clear fm
    clear xres0 xres1 xres2 xres3 xres4 xres5 xres6 xres7 xres8 xres9 yres
    clear fres
    have hs1 := hy.size
    try simp at hs1
    have he1 : Ext w w1 := Ext.trans (Ext.hold he0) hy
    have hBm_1 : Bx w1 (w.heap.size) [(.slice Am1 m.regs.length cm1), .int .i64 m.pc, (.slice Am2 m.mem.length cm2), .int .i64 m.save, .bool m.lets, .bool m.waits, .int .i64 m.halt, (.slice Am3 m.ins.length cm3), (.slice Am4 m.outs.length cm4), .int .i64 m.count] := hy.bx (Bx.hold hBm_0) (by first | omega | (simp; done) | (simp; omega))
    have hFm_1 : ∀ oo, w1.frozen? ⟨w.heap.size, oo, none⟩ = false := fun oo => (hy.frozen (by first | omega | (simp; done) | (simp; omega))).trans ((fz_hold hFm_0) oo)
    have hBres_1 : Bx w1 (w.heap.size + 1) [.slice none 0 0, .int .i64 0, .slice none 0 0, .int .i64 0, .bool false, .bool false, .int .i64 0, .slice none 0 0, .slice none 0 0, .int .i64 0] := hy.bx (Bx.hold hBres_0) (by first | omega | (simp; done) | (simp; omega))
    have hFres_1 : ∀ oo, w1.frozen? ⟨w.heap.size + 1, oo, none⟩ = false := fun oo => (hy.frozen (by first | omega | (simp; done) | (simp; omega))).trans ((fz_hold hFres_0) oo)
    try clear hBm_0 hFm_0 hBres_0 hFres_0
    clear hy
    have ym : w.heap.size < w1.heap.size := by omega
    have xm0 := hBm_1 0 _ rfl
    have xm1 := hBm_1 1 _ rfl
    have xm2 := hBm_1 2 _ rfl
    have xm3 := hBm_1 3 _ rfl
    have xm4 := hBm_1 4 _ rfl
    have xm5 := hBm_1 5 _ rfl
    have xm6 := hBm_1 6 _ rfl
    have xm7 := hBm_1 7 _ rfl
    have xm8 := hBm_1 8 _ rfl
    have xm9 := hBm_1 9 _ rfl
    have fm := hFm_1
    have yres : w.heap.size + 1 < w1.heap.size := by omega
    have xres0 := hBres_1 0 _ rfl
    have xres1 := hBres_1 1 _ rfl
    have xres2 := hBres_1 2 _ rfl
    have xres3 := hBres_1 3 _ rfl
    have xres4 := hBres_1 4 _ rfl
    have xres5 := hBres_1 5 _ rfl
    have xres6 := hBres_1 6 _ rfl
    have xres7 := hBres_1 7 _ rfl
    have xres8 := hBres_1 8 _ rfl
    have xres9 := hBres_1 9 _ rfl
    have fres := hFres_1
    go_wp2_with fail
    refine (l3CopyF_any m _ _ _ _ _ (hm1.ext he1) (hm2.ext he1) (hm3.ext he1) (hm4.ext he1) hn1 hn2 hn3 hn4).mono ?_
    rintro e w2 ⟨r1, r2, r3, r4, F1, F2, F3, Fs, xs, rfl, hr1, hr2, hr3, hA4, hfl, hfr, hoa, hcap, -, hy⟩
    obtain ⟨g1, o1, c1, g2, o2, c2, rfl, rfl, hM⟩ := Mach.fresh hr1 hr2 hr3 hA4 hfl hfr hoa hk.rl hk.ml hcap
    clear hr1 hr2 hr3 hA4 hfl hfr hoa hcap
    obtain ⟨A3, c3, rfl, hl3, hq3⟩ := hM.form3
    obtain ⟨A4, c4, rfl, hl4, hq4⟩ := hM.form4
    unfold maxLen at hq3 hq4
    clear xm0 xm1 xm2 xm3 xm4 xm5 xm6 xm7 xm8 xm9 ym
    clear fm
    clear xres0 xres1 xres2 xres3 xres4 xres5 xres6 xres7 xres8 xres9 yres
    clear fres
    have hs2 := hy.size
    try simp at hs2
    have he2 : Ext w w2 := Ext.trans (Ext.hold he1) hy
    have hBm_2 : Bx w2 (w.heap.size) [(.slice Am1 m.regs.length cm1), .int .i64 m.pc, (.slice Am2 m.mem.length cm2), .int .i64 m.save, .bool m.lets, .bool m.waits, .int .i64 m.halt, (.slice Am3 m.ins.length cm3), (.slice Am4 m.outs.length cm4), .int .i64 m.count] := hy.bx (Bx.hold hBm_1) (by first | omega | (simp; done) | (simp; omega))
    have hFm_2 : ∀ oo, w2.frozen? ⟨w.heap.size, oo, none⟩ = false := fun oo => (hy.frozen (by first | omega | (simp; done) | (simp; omega))).trans ((fz_hold hFm_1) oo)
    have hBres_2 : Bx w2 (w.heap.size + 1) [.slice none 0 0, .int .i64 0, .slice none 0 0, .int .i64 0, .bool false, .bool false, .int .i64 0, .slice none 0 0, .slice none 0 0, .int .i64 0] := hy.bx (Bx.hold hBres_1) (by first | omega | (simp; done) | (simp; omega))
    have hFres_2 : ∀ oo, w2.frozen? ⟨w.heap.size + 1, oo, none⟩ = false := fun oo => (hy.frozen (by first | omega | (simp; done) | (simp; omega))).trans ((fz_hold hFres_1) oo)
    try clear hBm_1 hFm_1 hBres_1 hFres_1
    clear hy
    have hfoot : ∀ x, x ∈ mfoot g1 g2 (Value.slice A4 m.outs.length c4) → w1.heap.size ≤ x ∧ x < w2.heap.size := hM.lt.2.2.2.2
    have ym : w.heap.size < w2.heap.size := by omega
    have xm0 := hBm_2 0 _ rfl
    have xm1 := hBm_2 1 _ rfl
    have xm2 := hBm_2 2 _ rfl
    have xm3 := hBm_2 3 _ rfl
    have xm4 := hBm_2 4 _ rfl
    have xm5 := hBm_2 5 _ rfl
    have xm6 := hBm_2 6 _ rfl
    have xm7 := hBm_2 7 _ rfl
    have xm8 := hBm_2 8 _ rfl
    have xm9 := hBm_2 9 _ rfl
    have fm := hFm_2
    have yres : w.heap.size + 1 < w2.heap.size := by omega
    have xres0 := hBres_2 0 _ rfl
    have xres1 := hBres_2 1 _ rfl
    have xres2 := hBres_2 2 _ rfl
    have xres3 := hBres_2 3 _ rfl
    have xres4 := hBres_2 4 _ rfl
    have xres5 := hBres_2 5 _ rfl
    have xres6 := hBres_2 6 _ rfl
    have xres7 := hBres_2 7 _ rfl
    have xres8 := hBres_2 8 _ rfl
    have xres9 := hBres_2 9 _ rfl
    have fres := hFres_2
    go_upto_region 4 with fail
    clear xm0 xm1 xm2 xm3 xm4 xm5 xm6 xm7 xm8 xm9 ym
    clear fm
    clear xres0 xres1 xres2 xres3 xres4 xres5 xres6 xres7 xres8 xres9 yres
    clear fres
    have he3 : Ext w (w2.alloc (Obj.cells #[(.slice (some ⟨g1, o1, none⟩) 4 c1), .int .i64 m.pc, (.slice (some ⟨g2, o2, none⟩) 64 c2), .int .i64 m.save, .bool m.lets, .bool m.waits, .int .i64 m.halt, (.slice A3 m.ins.length c3), (.slice A4 m.outs.length c4), .int .i64 m.count] 51)) := Ext.hold he2
    have hs3 : w2.heap.size + 1 ≤ ((w2.alloc (Obj.cells #[(.slice (some ⟨g1, o1, none⟩) 4 c1), .int .i64 m.pc, (.slice (some ⟨g2, o2, none⟩) 64 c2), .int .i64 m.save, .bool m.lets, .bool m.waits, .int .i64 m.halt, (.slice A3 m.ins.length c3), (.slice A4 m.outs.length c4), .int .i64 m.count] 51))).heap.size := by simp
    have hBm_3 : Bx (w2.alloc (Obj.cells #[(.slice (some ⟨g1, o1, none⟩) 4 c1), .int .i64 m.pc, (.slice (some ⟨g2, o2, none⟩) 64 c2), .int .i64 m.save, .bool m.lets, .bool m.waits, .int .i64 m.halt, (.slice A3 m.ins.length c3), (.slice A4 m.outs.length c4), .int .i64 m.count] 51)) (w.heap.size) [(.slice Am1 m.regs.length cm1), .int .i64 m.pc, (.slice Am2 m.mem.length cm2), .int .i64 m.save, .bool m.lets, .bool m.waits, .int .i64 m.halt, (.slice Am3 m.ins.length cm3), (.slice Am4 m.outs.length cm4), .int .i64 m.count] := Bx.hold hBm_2
    have hFm_3 : ∀ oo, (w2.alloc (Obj.cells #[(.slice (some ⟨g1, o1, none⟩) 4 c1), .int .i64 m.pc, (.slice (some ⟨g2, o2, none⟩) 64 c2), .int .i64 m.save, .bool m.lets, .bool m.waits, .int .i64 m.halt, (.slice A3 m.ins.length c3), (.slice A4 m.outs.length c4), .int .i64 m.count] 51)).frozen? ⟨w.heap.size, oo, none⟩ = false := fz_hold hFm_2
    have hBres_3 : Bx (w2.alloc (Obj.cells #[(.slice (some ⟨g1, o1, none⟩) 4 c1), .int .i64 m.pc, (.slice (some ⟨g2, o2, none⟩) 64 c2), .int .i64 m.save, .bool m.lets, .bool m.waits, .int .i64 m.halt, (.slice A3 m.ins.length c3), (.slice A4 m.outs.length c4), .int .i64 m.count] 51)) (w.heap.size + 1) [.slice none 0 0, .int .i64 0, .slice none 0 0, .int .i64 0, .bool false, .bool false, .int .i64 0, .slice none 0 0, .slice none 0 0, .int .i64 0] := Bx.hold hBres_2
    have hFres_3 : ∀ oo, (w2.alloc (Obj.cells #[(.slice (some ⟨g1, o1, none⟩) 4 c1), .int .i64 m.pc, (.slice (some ⟨g2, o2, none⟩) 64 c2), .int .i64 m.save, .bool m.lets, .bool m.waits, .int .i64 m.halt, (.slice A3 m.ins.length c3), (.slice A4 m.outs.length c4), .int .i64 m.count] 51)).frozen? ⟨w.heap.size + 1, oo, none⟩ = false := fz_hold hFres_2
    have hBx_3 : Bx (w2.alloc (Obj.cells #[(.slice (some ⟨g1, o1, none⟩) 4 c1), .int .i64 m.pc, (.slice (some ⟨g2, o2, none⟩) 64 c2), .int .i64 m.save, .bool m.lets, .bool m.waits, .int .i64 m.halt, (.slice A3 m.ins.length c3), (.slice A4 m.outs.length c4), .int .i64 m.count] 51)) (w2.heap.size) [(.slice (some ⟨g1, o1, none⟩) 4 c1), .int .i64 m.pc, (.slice (some ⟨g2, o2, none⟩) 64 c2), .int .i64 m.save, .bool m.lets, .bool m.waits, .int .i64 m.halt, (.slice A3 m.ins.length c3), (.slice A4 m.outs.length c4), .int .i64 m.count] := Bx.new w2 #[(.slice (some ⟨g1, o1, none⟩) 4 c1), .int .i64 m.pc, (.slice (some ⟨g2, o2, none⟩) 64 c2), .int .i64 m.save, .bool m.lets, .bool m.waits, .int .i64 m.halt, (.slice A3 m.ins.length c3), (.slice A4 m.outs.length c4), .int .i64 m.count] 51
    have hFx_3 : ∀ oo, (w2.alloc (Obj.cells #[(.slice (some ⟨g1, o1, none⟩) 4 c1), .int .i64 m.pc, (.slice (some ⟨g2, o2, none⟩) 64 c2), .int .i64 m.save, .bool m.lets, .bool m.waits, .int .i64 m.halt, (.slice A3 m.ins.length c3), (.slice A4 m.outs.length c4), .int .i64 m.count] 51)).frozen? ⟨w2.heap.size, oo, none⟩ = false := fz_new w2 #[(.slice (some ⟨g1, o1, none⟩) 4 c1), .int .i64 m.pc, (.slice (some ⟨g2, o2, none⟩) 64 c2), .int .i64 m.save, .bool m.lets, .bool m.waits, .int .i64 m.halt, (.slice A3 m.ins.length c3), (.slice A4 m.outs.length c4), .int .i64 m.count] 51 rfl
    have hMx := hM.addXs (show Ext w2 (w2.alloc (Obj.cells #[(.slice (some ⟨g1, o1, none⟩) 4 c1), .int .i64 m.pc, (.slice (some ⟨g2, o2, none⟩) 64 c2), .int .i64 m.save, .bool m.lets, .bool m.waits, .int .i64 m.halt, (.slice A3 m.ins.length c3), (.slice A4 m.outs.length c4), .int .i64 m.count] 51)) from Ext.auto) [w2.heap.size] (by intro b hb; simp at hb; subst hb; exact ⟨Nat.le_refl _, by simp⟩)
    generalize (w2.alloc (Obj.cells #[(.slice (some ⟨g1, o1, none⟩) 4 c1), .int .i64 m.pc, (.slice (some ⟨g2, o2, none⟩) 64 c2), .int .i64 m.save, .bool m.lets, .bool m.waits, .int .i64 m.halt, (.slice A3 m.ins.length c3), (.slice A4 m.outs.length c4), .int .i64 m.count] 51)) = w3 at *
    try clear hBm_2 hFm_2 hBres_2 hFres_2
    clear hM
    by_cases h0 : m.halt = 0
    rotate_left
    · 
      have q1 : (m.halt != 0) = true := by simp [h0]
      have HV := hide (mStep_stays H0.out (show mGoes m = false by rw [← Bool.not_eq_true, mGoes_iff]; exact fun q => h0 q.1) irq)
      clear h0
      have ym : w.heap.size < w3.heap.size := by omega
      have xm0 := hBm_3 0 _ rfl
      have xm1 := hBm_3 1 _ rfl
      have xm2 := hBm_3 2 _ rfl
      have xm3 := hBm_3 3 _ rfl
      have xm4 := hBm_3 4 _ rfl
      have xm5 := hBm_3 5 _ rfl
      have xm6 := hBm_3 6 _ rfl
      have xm7 := hBm_3 7 _ rfl
      have xm8 := hBm_3 8 _ rfl
      have xm9 := hBm_3 9 _ rfl
      have fm := hFm_3
      have yx : w2.heap.size < w3.heap.size := by omega
      have xx0 := hBx_3 0 _ rfl
      have xx1 := hBx_3 1 _ rfl
      have xx2 := hBx_3 2 _ rfl
      have xx3 := hBx_3 3 _ rfl
      have xx4 := hBx_3 4 _ rfl
      have xx5 := hBx_3 5 _ rfl
      have xx6 := hBx_3 6 _ rfl
      have xx7 := hBx_3 7 _ rfl
      have xx8 := hBx_3 8 _ rfl
      have xx9 := hBx_3 9 _ rfl
      have fx := hFx_3
      go_upto_region 5 with fail
      clear xm0 xm1 xm2 xm3 xm4 xm5 xm6 xm7 xm8 xm9 ym
      clear fm
      skip
      have hOc := (Mach.own4c hMx).reX (X' := []) (lo' := w1.heap.size) (Nat.le_refl _) (by simp)
      have yres : w.heap.size + 1 < w3.heap.size := by omega
      have xres0 := hBres_3 0 _ rfl
      have xres1 := hBres_3 1 _ rfl
      have xres2 := hBres_3 2 _ rfl
      have xres3 := hBres_3 3 _ rfl
      have xres4 := hBres_3 4 _ rfl
      have xres5 := hBres_3 5 _ rfl
      have xres6 := hBres_3 6 _ rfl
      have xres7 := hBres_3 7 _ rfl
      have xres8 := hBres_3 8 _ rfl
      have xres9 := hBres_3 9 _ rfl
      have fres := hFres_3
      go_wp2
      refine bodyPost_ret (v := .agg #[(.slice (some ⟨g1, o1, none⟩) 4 c1), .int .i64 m.pc, (.slice (some ⟨g2, o2, none⟩) 64 c2), .int .i64 m.save, .bool m.lets, .bool m.waits, .int .i64 m.halt, (.slice A3 m.ins.length c3), (.slice A4 m.outs.length c4), .int .i64 m.count]) (by simp [results, Tryd.results106, go_sem, xres0, xres1, xres2, xres3, xres4, xres5, xres6, xres7, xres8, xres9]) rfl ⟨_, _, _, _, by rw [HV.out], ?_, Ext.hold he3⟩
      rw [HV.out]
      refine Own4C.reX (X := []) (lo := w1.heap.size) ?_ (by first | omega | (simp; omega)) (by simp)
      repeat (refine Own4C.low ?_ (by first | (show _ < _; omega) | (simp; omega)) _)
      exact hOc
    by_cases h1 : m.count = 1000000
    · 
      have q1 : (m.halt != 0) = false := by simp [h0]
      have q2 : (m.count == 1000000) = true := by simp [h1]
      have HV := hide (mStep_stays H0.out (show mGoes m = false by rw [← Bool.not_eq_true, mGoes_iff]; exact fun q => by omega) irq)
      clear h0 h1
      have ym : w.heap.size < w3.heap.size := by omega
      have xm0 := hBm_3 0 _ rfl
      have xm1 := hBm_3 1 _ rfl
      have xm2 := hBm_3 2 _ rfl
      have xm3 := hBm_3 3 _ rfl
      have xm4 := hBm_3 4 _ rfl
      have xm5 := hBm_3 5 _ rfl
      have xm6 := hBm_3 6 _ rfl
      have xm7 := hBm_3 7 _ rfl
      have xm8 := hBm_3 8 _ rfl
      have xm9 := hBm_3 9 _ rfl
      have fm := hFm_3
      have yx : w2.heap.size < w3.heap.size := by omega
      have xx0 := hBx_3 0 _ rfl
      have xx1 := hBx_3 1 _ rfl
      have xx2 := hBx_3 2 _ rfl
      have xx3 := hBx_3 3 _ rfl
      have xx4 := hBx_3 4 _ rfl
      have xx5 := hBx_3 5 _ rfl
      have xx6 := hBx_3 6 _ rfl
      have xx7 := hBx_3 7 _ rfl
      have xx8 := hBx_3 8 _ rfl
      have xx9 := hBx_3 9 _ rfl
      have fx := hFx_3
      go_upto_region 5 with fail
      clear xm0 xm1 xm2 xm3 xm4 xm5 xm6 xm7 xm8 xm9 ym
      clear fm
      skip
      have hOc := (Mach.own4c hMx).reX (X' := []) (lo' := w1.heap.size) (Nat.le_refl _) (by simp)
      have yres : w.heap.size + 1 < w3.heap.size := by omega
      have xres0 := hBres_3 0 _ rfl
      have xres1 := hBres_3 1 _ rfl
      have xres2 := hBres_3 2 _ rfl
      have xres3 := hBres_3 3 _ rfl
      have xres4 := hBres_3 4 _ rfl
      have xres5 := hBres_3 5 _ rfl
      have xres6 := hBres_3 6 _ rfl
      have xres7 := hBres_3 7 _ rfl
      have xres8 := hBres_3 8 _ rfl
      have xres9 := hBres_3 9 _ rfl
      have fres := hFres_3
      go_wp2
      refine bodyPost_ret (v := .agg #[(.slice (some ⟨g1, o1, none⟩) 4 c1), .int .i64 m.pc, (.slice (some ⟨g2, o2, none⟩) 64 c2), .int .i64 m.save, .bool m.lets, .bool m.waits, .int .i64 m.halt, (.slice A3 m.ins.length c3), (.slice A4 m.outs.length c4), .int .i64 m.count]) (by simp [results, Tryd.results106, go_sem, xres0, xres1, xres2, xres3, xres4, xres5, xres6, xres7, xres8, xres9]) rfl ⟨_, _, _, _, by rw [HV.out], ?_, Ext.hold he3⟩
      rw [HV.out]
      refine Own4C.reX (X := []) (lo := w1.heap.size) ?_ (by first | omega | (simp; omega)) (by simp)
      repeat (refine Own4C.low ?_ (by first | (show _ < _; omega) | (simp; omega)) _)
      exact hOc
    have q1 : (m.halt != 0) = false := by simp [h0]
    have q2 : (m.count == 1000000) = false := by simp [h1]
    have hc : m.count < 1000000 := by have := hk.c1; omega
    have HG := hide (mStep_goes H0.out (mGoes_iff.2 ⟨h0, hc⟩) irq)
    clear h0 h1
    have ym : w.heap.size < w3.heap.size := by omega
    have xm0 := hBm_3 0 _ rfl
    have xm1 := hBm_3 1 _ rfl
    have xm2 := hBm_3 2 _ rfl
    have xm3 := hBm_3 3 _ rfl
    have xm4 := hBm_3 4 _ rfl
    have xm5 := hBm_3 5 _ rfl
    have xm6 := hBm_3 6 _ rfl
    have xm7 := hBm_3 7 _ rfl
    have xm8 := hBm_3 8 _ rfl
    have xm9 := hBm_3 9 _ rfl
    have fm := hFm_3
    have yx : w2.heap.size < w3.heap.size := by omega
    have xx0 := hBx_3 0 _ rfl
    have xx1 := hBx_3 1 _ rfl
    have xx2 := hBx_3 2 _ rfl
    have xx3 := hBx_3 3 _ rfl
    have xx4 := hBx_3 4 _ rfl
    have xx5 := hBx_3 5 _ rfl
    have xx6 := hBx_3 6 _ rfl
    have xx7 := hBx_3 7 _ rfl
    have xx8 := hBx_3 8 _ rfl
    have xx9 := hBx_3 9 _ rfl
    have fx := hFx_3
    go_wp2_with fail
    refine (l3Sample_any m irq _ _ _ _ _ _ _ _ _ _ _ _ _).mono ?_
    rintro e w4 ⟨rfl, hy⟩
    clear xm0 xm1 xm2 xm3 xm4 xm5 xm6 xm7 xm8 xm9 ym
    clear fm
    clear xx0 xx1 xx2 xx3 xx4 xx5 xx6 xx7 xx8 xx9 yx
    clear fx
    have hs4 := hy.size
    try simp at hs4
    have he4 : Ext w w4 := Ext.trans (Ext.hold he3) hy
    have hBm_4 : Bx w4 (w.heap.size) [(.slice Am1 m.regs.length cm1), .int .i64 m.pc, (.slice Am2 m.mem.length cm2), .int .i64 m.save, .bool m.lets, .bool m.waits, .int .i64 m.halt, (.slice Am3 m.ins.length cm3), (.slice Am4 m.outs.length cm4), .int .i64 m.count] := hy.bx (Bx.hold hBm_3) (by first | omega | (simp; done) | (simp; omega))
    have hFm_4 : ∀ oo, w4.frozen? ⟨w.heap.size, oo, none⟩ = false := fun oo => (hy.frozen (by first | omega | (simp; done) | (simp; omega))).trans ((fz_hold hFm_3) oo)
    have hBres_4 : Bx w4 (w.heap.size + 1) [.slice none 0 0, .int .i64 0, .slice none 0 0, .int .i64 0, .bool false, .bool false, .int .i64 0, .slice none 0 0, .slice none 0 0, .int .i64 0] := hy.bx (Bx.hold hBres_3) (by first | omega | (simp; done) | (simp; omega))
    have hFres_4 : ∀ oo, w4.frozen? ⟨w.heap.size + 1, oo, none⟩ = false := fun oo => (hy.frozen (by first | omega | (simp; done) | (simp; omega))).trans ((fz_hold hFres_3) oo)
    have hBx_4 : Bx w4 (w2.heap.size) [(.slice (some ⟨g1, o1, none⟩) 4 c1), .int .i64 m.pc, (.slice (some ⟨g2, o2, none⟩) 64 c2), .int .i64 m.save, .bool m.lets, .bool m.waits, .int .i64 m.halt, (.slice A3 m.ins.length c3), (.slice A4 m.outs.length c4), .int .i64 m.count] := hy.bx (Bx.hold hBx_3) (by first | omega | (simp; done) | (simp; omega))
    have hFx_4 : ∀ oo, w4.frozen? ⟨w2.heap.size, oo, none⟩ = false := fun oo => (hy.frozen (by first | omega | (simp; done) | (simp; omega))).trans ((fz_hold hFx_3) oo)
    try clear hBm_3 hFm_3 hBres_3 hFres_3 hBx_3 hFx_3
    have hMs := (hMx.ext hy).same (m' := (mSample m irq)) (mSample_same m irq).1 (mSample_same m irq).2.1 (mSample_same m irq).2.2.1 (mSample_same m irq).2.2.2.1
    clear hy hMx
    have hks := hk.sample irq
    have hcs : (mSample m irq).count < 1000000 := by rw [(mSample_same m irq).2.2.2.2]; exact hc
    have hsp0 := hks.p0
    have hsp1 := hks.p1
    have e4 : m.outs.length = (mSample m irq).outs.length := by rw [(mSample_same m irq).2.2.2.1]
    have e3 : m.ins.length = (mSample m irq).ins.length := by rw [(mSample_same m irq).2.2.1]
    have hn4' : (mSample m irq).outs.length ≤ 4194304 := by rw [← e4]; exact hn4
    rw [e4, e3] at hMs
    rw [e4] at hfoot
    simp only [e3, e4]
    clear e3 e4 hn3 hn4 hl3 hl4
    have fx := hFx_4
    have yx : w2.heap.size < w4.heap.size := by omega
    have xx0 := hBx_4 0 _ rfl
    have xx1 := hBx_4 1 _ rfl
    have xx2 := hBx_4 2 _ rfl
    have xx3 := hBx_4 3 _ rfl
    have xx4 := hBx_4 4 _ rfl
    have xx5 := hBx_4 5 _ rfl
    have xx6 := hBx_4 6 _ rfl
    have xx7 := hBx_4 7 _ rfl
    have xx8 := hBx_4 8 _ rfl
    have xx9 := hBx_4 9 _ rfl
    go_upto_region 7 with fail
    clear xx0 xx1 xx2 xx3 xx4 xx5 xx6 xx7 xx8 xx9 yx
    clear fx
    have he5 : Ext w ((((((((((w4.setCell ⟨w2.heap.size, 0, none⟩ ((.slice (some ⟨g1, o1, none⟩) 4 c1))).setCell ⟨w2.heap.size, 1, none⟩ (.int .i64 ((mSample m irq).pc))).setCell ⟨w2.heap.size, 2, none⟩ ((.slice (some ⟨g2, o2, none⟩) 64 c2))).setCell ⟨w2.heap.size, 3, none⟩ (.int .i64 ((mSample m irq).save))).setCell ⟨w2.heap.size, 4, none⟩ (.bool (mSample m irq).lets)).setCell ⟨w2.heap.size, 5, none⟩ (.bool (mSample m irq).waits)).setCell ⟨w2.heap.size, 6, none⟩ (.int .i64 ((mSample m irq).halt))).setCell ⟨w2.heap.size, 7, none⟩ ((.slice A3 (mSample m irq).ins.length c3))).setCell ⟨w2.heap.size, 8, none⟩ ((.slice A4 (mSample m irq).outs.length c4))).setCell ⟨w2.heap.size, 9, none⟩ (.int .i64 ((mSample m irq).count))) := Ext.hold he4
    have hs5 : w4.heap.size ≤ (((((((((((w4.setCell ⟨w2.heap.size, 0, none⟩ ((.slice (some ⟨g1, o1, none⟩) 4 c1))).setCell ⟨w2.heap.size, 1, none⟩ (.int .i64 ((mSample m irq).pc))).setCell ⟨w2.heap.size, 2, none⟩ ((.slice (some ⟨g2, o2, none⟩) 64 c2))).setCell ⟨w2.heap.size, 3, none⟩ (.int .i64 ((mSample m irq).save))).setCell ⟨w2.heap.size, 4, none⟩ (.bool (mSample m irq).lets)).setCell ⟨w2.heap.size, 5, none⟩ (.bool (mSample m irq).waits)).setCell ⟨w2.heap.size, 6, none⟩ (.int .i64 ((mSample m irq).halt))).setCell ⟨w2.heap.size, 7, none⟩ ((.slice A3 (mSample m irq).ins.length c3))).setCell ⟨w2.heap.size, 8, none⟩ ((.slice A4 (mSample m irq).outs.length c4))).setCell ⟨w2.heap.size, 9, none⟩ (.int .i64 ((mSample m irq).count)))).heap.size := by simp
    have hBm_5 : Bx ((((((((((w4.setCell ⟨w2.heap.size, 0, none⟩ ((.slice (some ⟨g1, o1, none⟩) 4 c1))).setCell ⟨w2.heap.size, 1, none⟩ (.int .i64 ((mSample m irq).pc))).setCell ⟨w2.heap.size, 2, none⟩ ((.slice (some ⟨g2, o2, none⟩) 64 c2))).setCell ⟨w2.heap.size, 3, none⟩ (.int .i64 ((mSample m irq).save))).setCell ⟨w2.heap.size, 4, none⟩ (.bool (mSample m irq).lets)).setCell ⟨w2.heap.size, 5, none⟩ (.bool (mSample m irq).waits)).setCell ⟨w2.heap.size, 6, none⟩ (.int .i64 ((mSample m irq).halt))).setCell ⟨w2.heap.size, 7, none⟩ ((.slice A3 (mSample m irq).ins.length c3))).setCell ⟨w2.heap.size, 8, none⟩ ((.slice A4 (mSample m irq).outs.length c4))).setCell ⟨w2.heap.size, 9, none⟩ (.int .i64 ((mSample m irq).count))) (w.heap.size) [(.slice Am1 m.regs.length cm1), .int .i64 m.pc, (.slice Am2 m.mem.length cm2), .int .i64 m.save, .bool m.lets, .bool m.waits, .int .i64 m.halt, (.slice Am3 m.ins.length cm3), (.slice Am4 m.outs.length cm4), .int .i64 m.count] := Bx.hold hBm_4
    have hFm_5 : ∀ oo, ((((((((((w4.setCell ⟨w2.heap.size, 0, none⟩ ((.slice (some ⟨g1, o1, none⟩) 4 c1))).setCell ⟨w2.heap.size, 1, none⟩ (.int .i64 ((mSample m irq).pc))).setCell ⟨w2.heap.size, 2, none⟩ ((.slice (some ⟨g2, o2, none⟩) 64 c2))).setCell ⟨w2.heap.size, 3, none⟩ (.int .i64 ((mSample m irq).save))).setCell ⟨w2.heap.size, 4, none⟩ (.bool (mSample m irq).lets)).setCell ⟨w2.heap.size, 5, none⟩ (.bool (mSample m irq).waits)).setCell ⟨w2.heap.size, 6, none⟩ (.int .i64 ((mSample m irq).halt))).setCell ⟨w2.heap.size, 7, none⟩ ((.slice A3 (mSample m irq).ins.length c3))).setCell ⟨w2.heap.size, 8, none⟩ ((.slice A4 (mSample m irq).outs.length c4))).setCell ⟨w2.heap.size, 9, none⟩ (.int .i64 ((mSample m irq).count))).frozen? ⟨w.heap.size, oo, none⟩ = false := fz_hold hFm_4
    have hBres_5 : Bx ((((((((((w4.setCell ⟨w2.heap.size, 0, none⟩ ((.slice (some ⟨g1, o1, none⟩) 4 c1))).setCell ⟨w2.heap.size, 1, none⟩ (.int .i64 ((mSample m irq).pc))).setCell ⟨w2.heap.size, 2, none⟩ ((.slice (some ⟨g2, o2, none⟩) 64 c2))).setCell ⟨w2.heap.size, 3, none⟩ (.int .i64 ((mSample m irq).save))).setCell ⟨w2.heap.size, 4, none⟩ (.bool (mSample m irq).lets)).setCell ⟨w2.heap.size, 5, none⟩ (.bool (mSample m irq).waits)).setCell ⟨w2.heap.size, 6, none⟩ (.int .i64 ((mSample m irq).halt))).setCell ⟨w2.heap.size, 7, none⟩ ((.slice A3 (mSample m irq).ins.length c3))).setCell ⟨w2.heap.size, 8, none⟩ ((.slice A4 (mSample m irq).outs.length c4))).setCell ⟨w2.heap.size, 9, none⟩ (.int .i64 ((mSample m irq).count))) (w.heap.size + 1) [.slice none 0 0, .int .i64 0, .slice none 0 0, .int .i64 0, .bool false, .bool false, .int .i64 0, .slice none 0 0, .slice none 0 0, .int .i64 0] := Bx.hold hBres_4
    have hFres_5 : ∀ oo, ((((((((((w4.setCell ⟨w2.heap.size, 0, none⟩ ((.slice (some ⟨g1, o1, none⟩) 4 c1))).setCell ⟨w2.heap.size, 1, none⟩ (.int .i64 ((mSample m irq).pc))).setCell ⟨w2.heap.size, 2, none⟩ ((.slice (some ⟨g2, o2, none⟩) 64 c2))).setCell ⟨w2.heap.size, 3, none⟩ (.int .i64 ((mSample m irq).save))).setCell ⟨w2.heap.size, 4, none⟩ (.bool (mSample m irq).lets)).setCell ⟨w2.heap.size, 5, none⟩ (.bool (mSample m irq).waits)).setCell ⟨w2.heap.size, 6, none⟩ (.int .i64 ((mSample m irq).halt))).setCell ⟨w2.heap.size, 7, none⟩ ((.slice A3 (mSample m irq).ins.length c3))).setCell ⟨w2.heap.size, 8, none⟩ ((.slice A4 (mSample m irq).outs.length c4))).setCell ⟨w2.heap.size, 9, none⟩ (.int .i64 ((mSample m irq).count))).frozen? ⟨w.heap.size + 1, oo, none⟩ = false := fz_hold hFres_4
    have hBx_5 : Bx ((((((((((w4.setCell ⟨w2.heap.size, 0, none⟩ ((.slice (some ⟨g1, o1, none⟩) 4 c1))).setCell ⟨w2.heap.size, 1, none⟩ (.int .i64 ((mSample m irq).pc))).setCell ⟨w2.heap.size, 2, none⟩ ((.slice (some ⟨g2, o2, none⟩) 64 c2))).setCell ⟨w2.heap.size, 3, none⟩ (.int .i64 ((mSample m irq).save))).setCell ⟨w2.heap.size, 4, none⟩ (.bool (mSample m irq).lets)).setCell ⟨w2.heap.size, 5, none⟩ (.bool (mSample m irq).waits)).setCell ⟨w2.heap.size, 6, none⟩ (.int .i64 ((mSample m irq).halt))).setCell ⟨w2.heap.size, 7, none⟩ ((.slice A3 (mSample m irq).ins.length c3))).setCell ⟨w2.heap.size, 8, none⟩ ((.slice A4 (mSample m irq).outs.length c4))).setCell ⟨w2.heap.size, 9, none⟩ (.int .i64 ((mSample m irq).count))) (w2.heap.size) [(.slice (some ⟨g1, o1, none⟩) 4 c1), .int .i64 ((mSample m irq).pc), (.slice (some ⟨g2, o2, none⟩) 64 c2), .int .i64 ((mSample m irq).save), .bool (mSample m irq).lets, .bool (mSample m irq).waits, .int .i64 ((mSample m irq).halt), (.slice A3 (mSample m irq).ins.length c3), (.slice A4 (mSample m irq).outs.length c4), .int .i64 ((mSample m irq).count)] := hBx_4.store10 rfl _ _ _ _ _ _ _ _ _ _
    have hFx_5 : ∀ oo, ((((((((((w4.setCell ⟨w2.heap.size, 0, none⟩ ((.slice (some ⟨g1, o1, none⟩) 4 c1))).setCell ⟨w2.heap.size, 1, none⟩ (.int .i64 ((mSample m irq).pc))).setCell ⟨w2.heap.size, 2, none⟩ ((.slice (some ⟨g2, o2, none⟩) 64 c2))).setCell ⟨w2.heap.size, 3, none⟩ (.int .i64 ((mSample m irq).save))).setCell ⟨w2.heap.size, 4, none⟩ (.bool (mSample m irq).lets)).setCell ⟨w2.heap.size, 5, none⟩ (.bool (mSample m irq).waits)).setCell ⟨w2.heap.size, 6, none⟩ (.int .i64 ((mSample m irq).halt))).setCell ⟨w2.heap.size, 7, none⟩ ((.slice A3 (mSample m irq).ins.length c3))).setCell ⟨w2.heap.size, 8, none⟩ ((.slice A4 (mSample m irq).outs.length c4))).setCell ⟨w2.heap.size, 9, none⟩ (.int .i64 ((mSample m irq).count))).frozen? ⟨w2.heap.size, oo, none⟩ = false := fz_hold hFx_4
    have hMsq := Mach.sets10 (b := w2.heap.size) hMs (by simp) ((.slice (some ⟨g1, o1, none⟩) 4 c1)) (.int .i64 ((mSample m irq).pc)) ((.slice (some ⟨g2, o2, none⟩) 64 c2)) (.int .i64 ((mSample m irq).save)) (.bool (mSample m irq).lets) (.bool (mSample m irq).waits) (.int .i64 ((mSample m irq).halt)) ((.slice A3 (mSample m irq).ins.length c3)) ((.slice A4 (mSample m irq).outs.length c4)) (.int .i64 ((mSample m irq).count))
    generalize ((((((((((w4.setCell ⟨w2.heap.size, 0, none⟩ ((.slice (some ⟨g1, o1, none⟩) 4 c1))).setCell ⟨w2.heap.size, 1, none⟩ (.int .i64 ((mSample m irq).pc))).setCell ⟨w2.heap.size, 2, none⟩ ((.slice (some ⟨g2, o2, none⟩) 64 c2))).setCell ⟨w2.heap.size, 3, none⟩ (.int .i64 ((mSample m irq).save))).setCell ⟨w2.heap.size, 4, none⟩ (.bool (mSample m irq).lets)).setCell ⟨w2.heap.size, 5, none⟩ (.bool (mSample m irq).waits)).setCell ⟨w2.heap.size, 6, none⟩ (.int .i64 ((mSample m irq).halt))).setCell ⟨w2.heap.size, 7, none⟩ ((.slice A3 (mSample m irq).ins.length c3))).setCell ⟨w2.heap.size, 8, none⟩ ((.slice A4 (mSample m irq).outs.length c4))).setCell ⟨w2.heap.size, 9, none⟩ (.int .i64 ((mSample m irq).count))) = w5 at *
    clear hBm_4 hFm_4 hBres_4 hFres_4 hBx_4 hFx_4 hMs
    have hMs := hMsq
    clear hMsq
    generalize hgm : (mSample m irq) = ms at *
    have HA := hide (show mStep m irq = (if 64 ≤ ms.pc then { ms with halt := 4 } else if insTakeB (ms.word ms.pc) then mDo ms (insOf (ms.word ms.pc)) else { ms with halt := 2 }) by rw [HG.out]; unfold mAct; rw [hgm])
    clear hgm HG
    by_cases hp : 64 ≤ ms.pc
    · 
      have q3 : decide (64 ≤ ms.pc) = true := decide_eq_true hp
      have HV := hide (HA.out.trans (if_pos hp))
      have yx : w2.heap.size < w5.heap.size := by omega
      have xx0 := hBx_5 0 _ rfl
      have xx1 := hBx_5 1 _ rfl
      have xx2 := hBx_5 2 _ rfl
      have xx3 := hBx_5 3 _ rfl
      have xx4 := hBx_5 4 _ rfl
      have xx5 := hBx_5 5 _ rfl
      have xx6 := hBx_5 6 _ rfl
      have xx7 := hBx_5 7 _ rfl
      have xx8 := hBx_5 8 _ rfl
      have xx9 := hBx_5 9 _ rfl
      have fx := hFx_5
      go_wp2_with fail
      refine (l3Halt_any ms 4 _ _ _ _ _ _ _ _ _ _ _ _ _).mono ?_
      rintro e w6 ⟨rfl, hy⟩
      clear xx0 xx1 xx2 xx3 xx4 xx5 xx6 xx7 xx8 xx9 yx
      clear fx
      have hs6 := hy.size
      try simp at hs6
      have he6 : Ext w w6 := Ext.trans (Ext.hold he5) hy
      have hBm_6 : Bx w6 (w.heap.size) [(.slice Am1 m.regs.length cm1), .int .i64 m.pc, (.slice Am2 m.mem.length cm2), .int .i64 m.save, .bool m.lets, .bool m.waits, .int .i64 m.halt, (.slice Am3 m.ins.length cm3), (.slice Am4 m.outs.length cm4), .int .i64 m.count] := hy.bx (Bx.hold hBm_5) (by first | omega | (simp; done) | (simp; omega))
      have hFm_6 : ∀ oo, w6.frozen? ⟨w.heap.size, oo, none⟩ = false := fun oo => (hy.frozen (by first | omega | (simp; done) | (simp; omega))).trans ((fz_hold hFm_5) oo)
      have hBres_6 : Bx w6 (w.heap.size + 1) [.slice none 0 0, .int .i64 0, .slice none 0 0, .int .i64 0, .bool false, .bool false, .int .i64 0, .slice none 0 0, .slice none 0 0, .int .i64 0] := hy.bx (Bx.hold hBres_5) (by first | omega | (simp; done) | (simp; omega))
      have hFres_6 : ∀ oo, w6.frozen? ⟨w.heap.size + 1, oo, none⟩ = false := fun oo => (hy.frozen (by first | omega | (simp; done) | (simp; omega))).trans ((fz_hold hFres_5) oo)
      try clear hBm_5 hFm_5 hBres_5 hFres_5
      have hMh := (hMs.ext hy).same (m' := ({ ms with halt := 4 } : MchMach)) rfl rfl rfl rfl
      clear hy hMs
      have hOc := (Mach.own4c hMh).reX (X' := []) (lo' := w1.heap.size) (Nat.le_refl _) (by simp)
      have yres : w.heap.size + 1 < w6.heap.size := by omega
      have xres0 := hBres_6 0 _ rfl
      have xres1 := hBres_6 1 _ rfl
      have xres2 := hBres_6 2 _ rfl
      have xres3 := hBres_6 3 _ rfl
      have xres4 := hBres_6 4 _ rfl
      have xres5 := hBres_6 5 _ rfl
      have xres6 := hBres_6 6 _ rfl
      have xres7 := hBres_6 7 _ rfl
      have xres8 := hBres_6 8 _ rfl
      have xres9 := hBres_6 9 _ rfl
      have fres := hFres_6
      go_wp2
      refine bodyPost_ret (v := .agg #[(.slice (some ⟨g1, o1, none⟩) 4 c1), .int .i64 (({ ms with halt := 4 } : MchMach).pc), (.slice (some ⟨g2, o2, none⟩) 64 c2), .int .i64 (({ ms with halt := 4 } : MchMach).save), .bool ({ ms with halt := 4 } : MchMach).lets, .bool ({ ms with halt := 4 } : MchMach).waits, .int .i64 (({ ms with halt := 4 } : MchMach).halt), (.slice A3 ms.ins.length c3), (.slice A4 ms.outs.length c4), .int .i64 (({ ms with halt := 4 } : MchMach).count)]) (by simp [results, Tryd.results106, go_sem, xres0, xres1, xres2, xres3, xres4, xres5, xres6, xres7, xres8, xres9]) rfl ⟨_, _, _, _, by rw [HV.out], ?_, Ext.hold he6⟩
      rw [HV.out]
      refine Own4C.reX (X := []) (lo := w1.heap.size) ?_ (by first | omega | (simp; omega)) (by simp)
      repeat (refine Own4C.low ?_ (by first | (show _ < _; omega) | (simp; omega)) _)
      exact hOc
    · 
      have HP := hide hp
      obtain ⟨P, hP⟩ := Int.eq_ofNat_of_zero_le hsp0
      have hP6 : P < 64 := by omega
      have q3 : decide (64 ≤ ms.pc) = false := decide_eq_false hp
      have z2 : ms.pc < 64 := by omega
      have hP2 : ms.pc.toNat = P := by omega
      have rp := hMs.memAt hP6
      have HW := hide (show ms.word ms.pc = ms.word (P : Int) by rw [hP])
      clear hP
      have yx : w2.heap.size < w5.heap.size := by omega
      have xx0 := hBx_5 0 _ rfl
      have xx1 := hBx_5 1 _ rfl
      have xx2 := hBx_5 2 _ rfl
      have xx3 := hBx_5 3 _ rfl
      have xx4 := hBx_5 4 _ rfl
      have xx5 := hBx_5 5 _ rfl
      have xx6 := hBx_5 6 _ rfl
      have xx7 := hBx_5 7 _ rfl
      have xx8 := hBx_5 8 _ rfl
      have xx9 := hBx_5 9 _ rfl
      have fx := hFx_5
      obtain ⟨op, D, a, k, hI, hop, hD, ha, hk0, hk1, hkc⟩ := insTake_form (ms.word (P : Int))
      go_wp2_with fail
      refine (specInsTake_any _ _).mono ?_
      rintro e w6 ⟨rfl, hy⟩
      simp only [hI]
      clear xx0 xx1 xx2 xx3 xx4 xx5 xx6 xx7 xx8 xx9 yx
      clear fx
      have hs6 := hy.size
      try simp at hs6
      have he6 : Ext w w6 := Ext.trans (Ext.hold he5) hy
      have hBm_6 : Bx w6 (w.heap.size) [(.slice Am1 m.regs.length cm1), .int .i64 m.pc, (.slice Am2 m.mem.length cm2), .int .i64 m.save, .bool m.lets, .bool m.waits, .int .i64 m.halt, (.slice Am3 m.ins.length cm3), (.slice Am4 m.outs.length cm4), .int .i64 m.count] := hy.bx (Bx.hold hBm_5) (by first | omega | (simp; done) | (simp; omega))
      have hFm_6 : ∀ oo, w6.frozen? ⟨w.heap.size, oo, none⟩ = false := fun oo => (hy.frozen (by first | omega | (simp; done) | (simp; omega))).trans ((fz_hold hFm_5) oo)
      have hBres_6 : Bx w6 (w.heap.size + 1) [.slice none 0 0, .int .i64 0, .slice none 0 0, .int .i64 0, .bool false, .bool false, .int .i64 0, .slice none 0 0, .slice none 0 0, .int .i64 0] := hy.bx (Bx.hold hBres_5) (by first | omega | (simp; done) | (simp; omega))
      have hFres_6 : ∀ oo, w6.frozen? ⟨w.heap.size + 1, oo, none⟩ = false := fun oo => (hy.frozen (by first | omega | (simp; done) | (simp; omega))).trans ((fz_hold hFres_5) oo)
      have hBx_6 : Bx w6 (w2.heap.size) [(.slice (some ⟨g1, o1, none⟩) 4 c1), .int .i64 (ms.pc), (.slice (some ⟨g2, o2, none⟩) 64 c2), .int .i64 (ms.save), .bool ms.lets, .bool ms.waits, .int .i64 (ms.halt), (.slice A3 ms.ins.length c3), (.slice A4 ms.outs.length c4), .int .i64 (ms.count)] := hy.bx (Bx.hold hBx_5) (by first | omega | (simp; done) | (simp; omega))
      have hFx_6 : ∀ oo, w6.frozen? ⟨w2.heap.size, oo, none⟩ = false := fun oo => (hy.frozen (by first | omega | (simp; done) | (simp; omega))).trans ((fz_hold hFx_5) oo)
      try clear hBm_5 hFm_5 hBres_5 hFres_5 hBx_5 hFx_5
      have hM2 := hMs.ext hy
      clear hy hMs rp
      have yx : w2.heap.size < w6.heap.size := by omega
      have xx0 := hBx_6 0 _ rfl
      have xx1 := hBx_6 1 _ rfl
      have xx2 := hBx_6 2 _ rfl
      have xx3 := hBx_6 3 _ rfl
      have xx4 := hBx_6 4 _ rfl
      have xx5 := hBx_6 5 _ rfl
      have xx6 := hBx_6 6 _ rfl
      have xx7 := hBx_6 7 _ rfl
      have xx8 := hBx_6 8 _ rfl
      have xx9 := hBx_6 9 _ rfl
      have fx := hFx_6
      go_upto_region 10 with fail
      clear xx0 xx1 xx2 xx3 xx4 xx5 xx6 xx7 xx8 xx9 yx
      clear fx
      have he7 : Ext w (w6.alloc (Obj.cells #[.int .i64 op, .int .i64 (D : Int), .int .i64 (a : Int), .int .i64 k] 30)) := Ext.hold he6
      have hs7 : w6.heap.size + 1 ≤ ((w6.alloc (Obj.cells #[.int .i64 op, .int .i64 (D : Int), .int .i64 (a : Int), .int .i64 k] 30))).heap.size := by simp
      have hBm_7 : Bx (w6.alloc (Obj.cells #[.int .i64 op, .int .i64 (D : Int), .int .i64 (a : Int), .int .i64 k] 30)) (w.heap.size) [(.slice Am1 m.regs.length cm1), .int .i64 m.pc, (.slice Am2 m.mem.length cm2), .int .i64 m.save, .bool m.lets, .bool m.waits, .int .i64 m.halt, (.slice Am3 m.ins.length cm3), (.slice Am4 m.outs.length cm4), .int .i64 m.count] := Bx.hold hBm_6
      have hFm_7 : ∀ oo, (w6.alloc (Obj.cells #[.int .i64 op, .int .i64 (D : Int), .int .i64 (a : Int), .int .i64 k] 30)).frozen? ⟨w.heap.size, oo, none⟩ = false := fz_hold hFm_6
      have hBres_7 : Bx (w6.alloc (Obj.cells #[.int .i64 op, .int .i64 (D : Int), .int .i64 (a : Int), .int .i64 k] 30)) (w.heap.size + 1) [.slice none 0 0, .int .i64 0, .slice none 0 0, .int .i64 0, .bool false, .bool false, .int .i64 0, .slice none 0 0, .slice none 0 0, .int .i64 0] := Bx.hold hBres_6
      have hFres_7 : ∀ oo, (w6.alloc (Obj.cells #[.int .i64 op, .int .i64 (D : Int), .int .i64 (a : Int), .int .i64 k] 30)).frozen? ⟨w.heap.size + 1, oo, none⟩ = false := fz_hold hFres_6
      have hBx_7 : Bx (w6.alloc (Obj.cells #[.int .i64 op, .int .i64 (D : Int), .int .i64 (a : Int), .int .i64 k] 30)) (w2.heap.size) [(.slice (some ⟨g1, o1, none⟩) 4 c1), .int .i64 (ms.pc), (.slice (some ⟨g2, o2, none⟩) 64 c2), .int .i64 (ms.save), .bool ms.lets, .bool ms.waits, .int .i64 (ms.halt), (.slice A3 ms.ins.length c3), (.slice A4 ms.outs.length c4), .int .i64 (ms.count)] := Bx.hold hBx_6
      have hFx_7 : ∀ oo, (w6.alloc (Obj.cells #[.int .i64 op, .int .i64 (D : Int), .int .i64 (a : Int), .int .i64 k] 30)).frozen? ⟨w2.heap.size, oo, none⟩ = false := fz_hold hFx_6
      have hBi_7 : Bx (w6.alloc (Obj.cells #[.int .i64 op, .int .i64 (D : Int), .int .i64 (a : Int), .int .i64 k] 30)) (w6.heap.size) [.int .i64 op, .int .i64 (D : Int), .int .i64 (a : Int), .int .i64 k] := Bx.new w6 #[.int .i64 op, .int .i64 (D : Int), .int .i64 (a : Int), .int .i64 k] 30
      have hFi_7 : ∀ oo, (w6.alloc (Obj.cells #[.int .i64 op, .int .i64 (D : Int), .int .i64 (a : Int), .int .i64 k] 30)).frozen? ⟨w6.heap.size, oo, none⟩ = false := fz_new w6 #[.int .i64 op, .int .i64 (D : Int), .int .i64 (a : Int), .int .i64 k] 30 rfl
      have hM3 := hM2.alloc (Obj.cells #[.int .i64 op, .int .i64 (D : Int), .int .i64 (a : Int), .int .i64 k] 30)
      generalize (w6.alloc (Obj.cells #[.int .i64 op, .int .i64 (D : Int), .int .i64 (a : Int), .int .i64 k] 30)) = w7 at *
      try clear hBm_6 hFm_6 hBres_6 hFres_6 hBx_6 hFx_6
      clear hM2
      have hMs := hM3
      clear hM3
      cases qt : insTakeB (ms.word (P : Int))
      · 
        have HV := hide (HA.out.trans (by rw [if_neg (show ¬ (64 ≤ ms.pc) by have := HP.out; omega), HW.out, qt]; rfl : _ = ({ ms with halt := 2 } : MchMach)))
        have yi : w6.heap.size < w7.heap.size := by omega
        have xi0 := hBi_7 0 _ rfl
        have xi1 := hBi_7 1 _ rfl
        have xi2 := hBi_7 2 _ rfl
        have xi3 := hBi_7 3 _ rfl
        have fi := hFi_7
        have yx : w2.heap.size < w7.heap.size := by omega
        have xx0 := hBx_7 0 _ rfl
        have xx1 := hBx_7 1 _ rfl
        have xx2 := hBx_7 2 _ rfl
        have xx3 := hBx_7 3 _ rfl
        have xx4 := hBx_7 4 _ rfl
        have xx5 := hBx_7 5 _ rfl
        have xx6 := hBx_7 6 _ rfl
        have xx7 := hBx_7 7 _ rfl
        have xx8 := hBx_7 8 _ rfl
        have xx9 := hBx_7 9 _ rfl
        have fx := hFx_7
        go_wp2_with fail
        refine (l3Halt_any ms 2 _ _ _ _ _ _ _ _ _ _ _ _ _).mono ?_
        rintro e w8 ⟨rfl, hy⟩
        clear xx0 xx1 xx2 xx3 xx4 xx5 xx6 xx7 xx8 xx9 yx
        clear fx
        have hs8 := hy.size
        try simp at hs8
        have he8 : Ext w w8 := Ext.trans (Ext.hold he7) hy
        have hBm_8 : Bx w8 (w.heap.size) [(.slice Am1 m.regs.length cm1), .int .i64 m.pc, (.slice Am2 m.mem.length cm2), .int .i64 m.save, .bool m.lets, .bool m.waits, .int .i64 m.halt, (.slice Am3 m.ins.length cm3), (.slice Am4 m.outs.length cm4), .int .i64 m.count] := hy.bx (Bx.hold hBm_7) (by first | omega | (simp; done) | (simp; omega))
        have hFm_8 : ∀ oo, w8.frozen? ⟨w.heap.size, oo, none⟩ = false := fun oo => (hy.frozen (by first | omega | (simp; done) | (simp; omega))).trans ((fz_hold hFm_7) oo)
        have hBres_8 : Bx w8 (w.heap.size + 1) [.slice none 0 0, .int .i64 0, .slice none 0 0, .int .i64 0, .bool false, .bool false, .int .i64 0, .slice none 0 0, .slice none 0 0, .int .i64 0] := hy.bx (Bx.hold hBres_7) (by first | omega | (simp; done) | (simp; omega))
        have hFres_8 : ∀ oo, w8.frozen? ⟨w.heap.size + 1, oo, none⟩ = false := fun oo => (hy.frozen (by first | omega | (simp; done) | (simp; omega))).trans ((fz_hold hFres_7) oo)
        have hBi_8 : Bx w8 (w6.heap.size) [.int .i64 op, .int .i64 (D : Int), .int .i64 (a : Int), .int .i64 k] := hy.bx (Bx.hold hBi_7) (by first | omega | (simp; done) | (simp; omega))
        have hFi_8 : ∀ oo, w8.frozen? ⟨w6.heap.size, oo, none⟩ = false := fun oo => (hy.frozen (by first | omega | (simp; done) | (simp; omega))).trans ((fz_hold hFi_7) oo)
        try clear hBm_7 hFm_7 hBres_7 hFres_7 hBi_7 hFi_7
        have hMh := (hMs.ext hy).same (m' := ({ ms with halt := 2 } : MchMach)) rfl rfl rfl rfl
        clear hy hMs
        have hOc := (Mach.own4c hMh).reX (X' := []) (lo' := w1.heap.size) (Nat.le_refl _) (by simp)
        have yres : w.heap.size + 1 < w8.heap.size := by omega
        have xres0 := hBres_8 0 _ rfl
        have xres1 := hBres_8 1 _ rfl
        have xres2 := hBres_8 2 _ rfl
        have xres3 := hBres_8 3 _ rfl
        have xres4 := hBres_8 4 _ rfl
        have xres5 := hBres_8 5 _ rfl
        have xres6 := hBres_8 6 _ rfl
        have xres7 := hBres_8 7 _ rfl
        have xres8 := hBres_8 8 _ rfl
        have xres9 := hBres_8 9 _ rfl
        have fres := hFres_8
        go_wp2
        refine bodyPost_ret (v := .agg #[(.slice (some ⟨g1, o1, none⟩) 4 c1), .int .i64 (({ ms with halt := 2 } : MchMach).pc), (.slice (some ⟨g2, o2, none⟩) 64 c2), .int .i64 (({ ms with halt := 2 } : MchMach).save), .bool ({ ms with halt := 2 } : MchMach).lets, .bool ({ ms with halt := 2 } : MchMach).waits, .int .i64 (({ ms with halt := 2 } : MchMach).halt), (.slice A3 ms.ins.length c3), (.slice A4 ms.outs.length c4), .int .i64 (({ ms with halt := 2 } : MchMach).count)]) (by simp [results, Tryd.results106, go_sem, xres0, xres1, xres2, xres3, xres4, xres5, xres6, xres7, xres8, xres9]) rfl ⟨_, _, _, _, by rw [HV.out], ?_, Ext.hold he8⟩
        rw [HV.out]
        refine Own4C.reX (X := []) (lo := w1.heap.size) ?_ (by first | omega | (simp; omega)) (by simp)
        repeat (refine Own4C.low ?_ (by first | (show _ < _; omega) | (simp; omega)) _)
        exact hOc
      · 
        have HV := hide (HA.out.trans (by rw [if_neg (show ¬ (64 ≤ ms.pc) by have := HP.out; omega), HW.out, if_pos qt, ← hI]; unfold insTake; rw [if_pos qt] : _ = (mDo ms ⟨op, (D : Int), (a : Int), k⟩)))
        have yx : w2.heap.size < w7.heap.size := by omega
        have xx0 := hBx_7 0 _ rfl
        have xx1 := hBx_7 1 _ rfl
        have xx2 := hBx_7 2 _ rfl
        have xx3 := hBx_7 3 _ rfl
        have xx4 := hBx_7 4 _ rfl
        have xx5 := hBx_7 5 _ rfl
        have xx6 := hBx_7 6 _ rfl
        have xx7 := hBx_7 7 _ rfl
        have xx8 := hBx_7 8 _ rfl
        have xx9 := hBx_7 9 _ rfl
        have fx := hFx_7
        have yi : w6.heap.size < w7.heap.size := by omega
        have xi0 := hBi_7 0 _ rfl
        have xi1 := hBi_7 1 _ rfl
        have xi2 := hBi_7 2 _ rfl
        have xi3 := hBi_7 3 _ rfl
        have fi := hFi_7
        go_wp2_with fail
        refine (l3Do_any ms _ _ _ _ _ _ _ _ _ _ _ hMs hks hcs hn4' op D a k hD ha hk0 hk1 hop hkc).mono ?_
        rintro e w8 ⟨v3', v4', rfl, hMd, hy, ho4⟩
        clear xx0 xx1 xx2 xx3 xx4 xx5 xx6 xx7 xx8 xx9 yx
        clear fx
        clear xi0 xi1 xi2 xi3 yi
        clear fi
        obtain ⟨A5, c5, rfl, -, -⟩ := hMd.form3
        obtain ⟨A6, c6, rfl, -, -⟩ := hMd.form4
        have hs8 := hy.size
        try simp at hs8
        have he8 : Ext w w8 := hy.ext (Ext.hold he7) (fun x hx => by have := (hfoot x hx).1; omega)
        have hBm_8 : Bx w8 (w.heap.size) [(.slice Am1 m.regs.length cm1), .int .i64 m.pc, (.slice Am2 m.mem.length cm2), .int .i64 m.save, .bool m.lets, .bool m.waits, .int .i64 m.halt, (.slice Am3 m.ins.length cm3), (.slice Am4 m.outs.length cm4), .int .i64 m.count] := hy.bx (Bx.hold hBm_7) (by first | omega | (simp; done) | (simp; omega)) (fun hm => by have := hfoot _ hm; omega)
        have hFm_8 : ∀ oo, w8.frozen? ⟨w.heap.size, oo, none⟩ = false := fun oo => (hy.frozen (by first | omega | (simp; done) | (simp; omega)) (fun hm => by have := hfoot _ hm; omega)).trans ((fz_hold hFm_7) oo)
        have hBres_8 : Bx w8 (w.heap.size + 1) [.slice none 0 0, .int .i64 0, .slice none 0 0, .int .i64 0, .bool false, .bool false, .int .i64 0, .slice none 0 0, .slice none 0 0, .int .i64 0] := hy.bx (Bx.hold hBres_7) (by first | omega | (simp; done) | (simp; omega)) (fun hm => by have := hfoot _ hm; omega)
        have hFres_8 : ∀ oo, w8.frozen? ⟨w.heap.size + 1, oo, none⟩ = false := fun oo => (hy.frozen (by first | omega | (simp; done) | (simp; omega)) (fun hm => by have := hfoot _ hm; omega)).trans ((fz_hold hFres_7) oo)
        try clear hBm_7 hFm_7 hBres_7 hFres_7
        have hOc := (Mach.own4c hMd).reX (X' := []) (lo' := w1.heap.size) (Nat.le_refl _) (by simp)
        have yres : w.heap.size + 1 < w8.heap.size := by omega
        have xres0 := hBres_8 0 _ rfl
        have xres1 := hBres_8 1 _ rfl
        have xres2 := hBres_8 2 _ rfl
        have xres3 := hBres_8 3 _ rfl
        have xres4 := hBres_8 4 _ rfl
        have xres5 := hBres_8 5 _ rfl
        have xres6 := hBres_8 6 _ rfl
        have xres7 := hBres_8 7 _ rfl
        have xres8 := hBres_8 8 _ rfl
        have xres9 := hBres_8 9 _ rfl
        have fres := hFres_8
        go_wp2
        refine bodyPost_ret (v := .agg #[(.slice (some ⟨g1, o1, none⟩) 4 c1), .int .i64 ((mDo ms ⟨op, (D : Int), (a : Int), k⟩).pc), (.slice (some ⟨g2, o2, none⟩) 64 c2), .int .i64 ((mDo ms ⟨op, (D : Int), (a : Int), k⟩).save), .bool (mDo ms ⟨op, (D : Int), (a : Int), k⟩).lets, .bool (mDo ms ⟨op, (D : Int), (a : Int), k⟩).waits, .int .i64 ((mDo ms ⟨op, (D : Int), (a : Int), k⟩).halt), (.slice A5 (mDo ms ⟨op, (D : Int), (a : Int), k⟩).ins.length c5), (.slice A6 (mDo ms ⟨op, (D : Int), (a : Int), k⟩).outs.length c6), .int .i64 ((mDo ms ⟨op, (D : Int), (a : Int), k⟩).count)]) (by simp [results, Tryd.results106, go_sem, xres0, xres1, xres2, xres3, xres4, xres5, xres6, xres7, xres8, xres9]) rfl ⟨_, _, _, _, by rw [HV.out], ?_, Ext.hold he8⟩
        rw [HV.out]
        refine Own4C.reX (X := []) (lo := w1.heap.size) ?_ (by first | omega | (simp; omega)) (by simp)
        repeat (refine Own4C.low ?_ (by first | (show _ < _; omega) | (simp; omega)) _)
        exact hOc

end Go.Proofs.YtokibcicoomceaaDoor
