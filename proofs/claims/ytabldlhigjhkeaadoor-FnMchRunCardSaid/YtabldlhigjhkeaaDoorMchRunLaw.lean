/-
  The law FnMchRun returns true for every input.
-/
import Derived.Test.YtabldlhigjhkeaaDoorLawRun
import Derived.Test.YtabldlhigjhkeaaDoorLaMach
import Derived.Test.YtabldlhigjhkeaaDoorLawPure
import Derived.Test.YtabldlhigjhkeaaDoorRegLib
import Derived.Deep.DeepCutAuto
namespace Go.Proofs.YtabldlhigjhkeaaDoor
open Go.RowKit

set_option linter.unusedVariables false
set_option linter.unusedSimpArgs false
set_option maxRecDepth 100000

set_option maxHeartbeats 64000000 in
theorem lawMchRun_any (code : List UInt8) (v : Value) (w : World) (h : Sl w (Old w) v code) (lf : Nat) (hF : Forms lf w) : Calls Tryd.prog 14 #[v] w fun e w' => e = .returned (.bool true) ∧ Ext w w' := by
  obtain ⟨Ac, cc, rfl, -, -⟩ := h.form
  by_cases hbig : 1048576 < code.length
  · have q1 : decide (1048576 < (code.length : Int)) = true := decide_eq_true (by omega)
    go_enter Tryd.func14, Tryd.ntmps14
    go_wp2
    go_ret
    exact ⟨rfl, Ext.refl _⟩
  have q1 : decide (1048576 < (code.length : Int)) = false := decide_eq_false (by omega)
  go_enter Tryd.func14, Tryd.ntmps14
  go_wp2_with fail
  refine (drawMchRun_any code _ _ h).mono ?_
  intro e w1 hd
  unfold DRun at hd
  obtain ⟨m, A1m, A2m, A3m, A4m, A5, c1m, c2m, c3m, c4m, c5, irqs, n, rfl, ⟨hl1, hl2, hl3, hl4⟩, ⟨hli, hiw, hn0, hn1⟩, tm1, tm2, tm3, tm4, ti, he1⟩ := hd
  have hs1 := he1.size
  have hb1_1 : Ext w1 w1 := Ext.refl _
  have HIW := hide True.intro
  clear q1 hbig
  have HW := hide hiw
  clear hiw
  go_upto_region 4 with fail
  have he2 : Ext w (w1.alloc (Obj.cells #[(.slice A1m m.regs.length c1m), .int .i64 m.pc, (.slice A2m m.mem.length c2m), .int .i64 m.save, .bool m.lets, .bool m.waits, .int .i64 m.halt, (.slice A3m m.ins.length c3m), (.slice A4m m.outs.length c4m), .int .i64 m.count] 26)) := Ext.hold he1
  have hs2 : w1.heap.size + 1 ≤ ((w1.alloc (Obj.cells #[(.slice A1m m.regs.length c1m), .int .i64 m.pc, (.slice A2m m.mem.length c2m), .int .i64 m.save, .bool m.lets, .bool m.waits, .int .i64 m.halt, (.slice A3m m.ins.length c3m), (.slice A4m m.outs.length c4m), .int .i64 m.count] 26))).heap.size := by simp
  have hb1_2 : Ext w1 (w1.alloc (Obj.cells #[(.slice A1m m.regs.length c1m), .int .i64 m.pc, (.slice A2m m.mem.length c2m), .int .i64 m.save, .bool m.lets, .bool m.waits, .int .i64 m.halt, (.slice A3m m.ins.length c3m), (.slice A4m m.outs.length c4m), .int .i64 m.count] 26)) := Ext.hold hb1_1
  have hBm_2 : Bx (w1.alloc (Obj.cells #[(.slice A1m m.regs.length c1m), .int .i64 m.pc, (.slice A2m m.mem.length c2m), .int .i64 m.save, .bool m.lets, .bool m.waits, .int .i64 m.halt, (.slice A3m m.ins.length c3m), (.slice A4m m.outs.length c4m), .int .i64 m.count] 26)) (w1.heap.size) [(.slice A1m m.regs.length c1m), .int .i64 m.pc, (.slice A2m m.mem.length c2m), .int .i64 m.save, .bool m.lets, .bool m.waits, .int .i64 m.halt, (.slice A3m m.ins.length c3m), (.slice A4m m.outs.length c4m), .int .i64 m.count] := Bx.new w1 #[(.slice A1m m.regs.length c1m), .int .i64 m.pc, (.slice A2m m.mem.length c2m), .int .i64 m.save, .bool m.lets, .bool m.waits, .int .i64 m.halt, (.slice A3m m.ins.length c3m), (.slice A4m m.outs.length c4m), .int .i64 m.count] 26
  have hFm_2 : ∀ oo, (w1.alloc (Obj.cells #[(.slice A1m m.regs.length c1m), .int .i64 m.pc, (.slice A2m m.mem.length c2m), .int .i64 m.save, .bool m.lets, .bool m.waits, .int .i64 m.halt, (.slice A3m m.ins.length c3m), (.slice A4m m.outs.length c4m), .int .i64 m.count] 26)).frozen? ⟨w1.heap.size, oo, none⟩ = false := fz_new w1 #[(.slice A1m m.regs.length c1m), .int .i64 m.pc, (.slice A2m m.mem.length c2m), .int .i64 m.save, .bool m.lets, .bool m.waits, .int .i64 m.halt, (.slice A3m m.ins.length c3m), (.slice A4m m.outs.length c4m), .int .i64 m.count] 26 rfl
  generalize (w1.alloc (Obj.cells #[(.slice A1m m.regs.length c1m), .int .i64 m.pc, (.slice A2m m.mem.length c2m), .int .i64 m.save, .bool m.lets, .bool m.waits, .int .i64 m.halt, (.slice A3m m.ins.length c3m), (.slice A4m m.outs.length c4m), .int .i64 m.count] 26)) = w2 at *
  clear hb1_1
  have ym : w1.heap.size < w2.heap.size := by omega
  have xm0 := hBm_2 0 _ rfl
  have xm1 := hBm_2 1 _ rfl
  have xm2 := hBm_2 2 _ rfl
  have xm3 := hBm_2 3 _ rfl
  have xm4 := hBm_2 4 _ rfl
  have xm5 := hBm_2 5 _ rfl
  have xm6 := hBm_2 6 _ rfl
  have xm7 := hBm_2 7 _ rfl
  have xm8 := hBm_2 8 _ rfl
  have xm9 := hBm_2 9 _ rfl
  have fm := hFm_2
  go_wp2_with fail
  refine (implRun_r m irqs n _ _ _ _ _ _ (tm1.ext (Ext.hold hb1_2)) (tm2.ext (Ext.hold hb1_2)) (tm3.ext (Ext.hold hb1_2)) (tm4.ext (Ext.hold hb1_2)) (ti.ext (Ext.hold hb1_2)) (by omega) (by omega) (by omega) (by omega) (by omega) lf (hF.ext (Ext.hold he2))).mono ?_
  intro e w3 hr
  unfold MRet at hr
  obtain ⟨A1x, A2x, A3x, A4x, c1x, c2x, c3x, c4x, rfl, tx1, tx2, tx3, tx4, hy⟩ := hr
  generalize hgx : mRun m irqs n = x at *
  have HX := hide hgx
  clear hgx
  clear xm0 xm1 xm2 xm3 xm4 xm5 xm6 xm7 xm8 xm9 ym
  clear fm
  have hb1_3 : Ext w1 w3 := Ext.trans (Ext.hold hb1_2) hy
  have hs3 := hy.size
  try simp at hs3
  have he3 : Ext w w3 := Ext.trans (Ext.hold he2) hy
  have hBm_3 : Bx w3 (w1.heap.size) [(.slice A1m m.regs.length c1m), .int .i64 m.pc, (.slice A2m m.mem.length c2m), .int .i64 m.save, .bool m.lets, .bool m.waits, .int .i64 m.halt, (.slice A3m m.ins.length c3m), (.slice A4m m.outs.length c4m), .int .i64 m.count] := hy.bx (Bx.hold hBm_2) (by first | omega | (simp; done) | (simp; omega))
  have hFm_3 : ∀ oo, w3.frozen? ⟨w1.heap.size, oo, none⟩ = false := fun oo => (hy.frozen (by first | omega | (simp; done) | (simp; omega))).trans ((fz_hold hFm_2) oo)
  try clear hBm_2 hFm_2
  clear hy hb1_2
  have hb3_3 : Ext w3 w3 := Ext.refl _
  have ym : w1.heap.size < w3.heap.size := by omega
  have xm0 := hBm_3 0 _ rfl
  have xm1 := hBm_3 1 _ rfl
  have xm2 := hBm_3 2 _ rfl
  have xm3 := hBm_3 3 _ rfl
  have xm4 := hBm_3 4 _ rfl
  have xm5 := hBm_3 5 _ rfl
  have xm6 := hBm_3 6 _ rfl
  have xm7 := hBm_3 7 _ rfl
  have xm8 := hBm_3 8 _ rfl
  have xm9 := hBm_3 9 _ rfl
  have fm := hFm_3
  go_upto_region 5 with fail
  clear xm0 xm1 xm2 xm3 xm4 xm5 xm6 xm7 xm8 xm9 ym
  clear fm
  have he4 : Ext w (w3.alloc (Obj.cells #[(.slice A1x x.regs.length c1x), .int .i64 x.pc, (.slice A2x x.mem.length c2x), .int .i64 x.save, .bool x.lets, .bool x.waits, .int .i64 x.halt, (.slice A3x x.ins.length c3x), (.slice A4x x.outs.length c4x), .int .i64 x.count] 26)) := Ext.hold he3
  have hs4 : w3.heap.size + 1 ≤ ((w3.alloc (Obj.cells #[(.slice A1x x.regs.length c1x), .int .i64 x.pc, (.slice A2x x.mem.length c2x), .int .i64 x.save, .bool x.lets, .bool x.waits, .int .i64 x.halt, (.slice A3x x.ins.length c3x), (.slice A4x x.outs.length c4x), .int .i64 x.count] 26))).heap.size := by simp
  have hb1_4 : Ext w1 (w3.alloc (Obj.cells #[(.slice A1x x.regs.length c1x), .int .i64 x.pc, (.slice A2x x.mem.length c2x), .int .i64 x.save, .bool x.lets, .bool x.waits, .int .i64 x.halt, (.slice A3x x.ins.length c3x), (.slice A4x x.outs.length c4x), .int .i64 x.count] 26)) := Ext.hold hb1_3
  have hb3_4 : Ext w3 (w3.alloc (Obj.cells #[(.slice A1x x.regs.length c1x), .int .i64 x.pc, (.slice A2x x.mem.length c2x), .int .i64 x.save, .bool x.lets, .bool x.waits, .int .i64 x.halt, (.slice A3x x.ins.length c3x), (.slice A4x x.outs.length c4x), .int .i64 x.count] 26)) := Ext.hold hb3_3
  have hBm_4 : Bx (w3.alloc (Obj.cells #[(.slice A1x x.regs.length c1x), .int .i64 x.pc, (.slice A2x x.mem.length c2x), .int .i64 x.save, .bool x.lets, .bool x.waits, .int .i64 x.halt, (.slice A3x x.ins.length c3x), (.slice A4x x.outs.length c4x), .int .i64 x.count] 26)) (w1.heap.size) [(.slice A1m m.regs.length c1m), .int .i64 m.pc, (.slice A2m m.mem.length c2m), .int .i64 m.save, .bool m.lets, .bool m.waits, .int .i64 m.halt, (.slice A3m m.ins.length c3m), (.slice A4m m.outs.length c4m), .int .i64 m.count] := Bx.hold hBm_3
  have hFm_4 : ∀ oo, (w3.alloc (Obj.cells #[(.slice A1x x.regs.length c1x), .int .i64 x.pc, (.slice A2x x.mem.length c2x), .int .i64 x.save, .bool x.lets, .bool x.waits, .int .i64 x.halt, (.slice A3x x.ins.length c3x), (.slice A4x x.outs.length c4x), .int .i64 x.count] 26)).frozen? ⟨w1.heap.size, oo, none⟩ = false := fz_hold hFm_3
  have hBx_4 : Bx (w3.alloc (Obj.cells #[(.slice A1x x.regs.length c1x), .int .i64 x.pc, (.slice A2x x.mem.length c2x), .int .i64 x.save, .bool x.lets, .bool x.waits, .int .i64 x.halt, (.slice A3x x.ins.length c3x), (.slice A4x x.outs.length c4x), .int .i64 x.count] 26)) (w3.heap.size) [(.slice A1x x.regs.length c1x), .int .i64 x.pc, (.slice A2x x.mem.length c2x), .int .i64 x.save, .bool x.lets, .bool x.waits, .int .i64 x.halt, (.slice A3x x.ins.length c3x), (.slice A4x x.outs.length c4x), .int .i64 x.count] := Bx.new w3 #[(.slice A1x x.regs.length c1x), .int .i64 x.pc, (.slice A2x x.mem.length c2x), .int .i64 x.save, .bool x.lets, .bool x.waits, .int .i64 x.halt, (.slice A3x x.ins.length c3x), (.slice A4x x.outs.length c4x), .int .i64 x.count] 26
  have hFx_4 : ∀ oo, (w3.alloc (Obj.cells #[(.slice A1x x.regs.length c1x), .int .i64 x.pc, (.slice A2x x.mem.length c2x), .int .i64 x.save, .bool x.lets, .bool x.waits, .int .i64 x.halt, (.slice A3x x.ins.length c3x), (.slice A4x x.outs.length c4x), .int .i64 x.count] 26)).frozen? ⟨w3.heap.size, oo, none⟩ = false := fz_new w3 #[(.slice A1x x.regs.length c1x), .int .i64 x.pc, (.slice A2x x.mem.length c2x), .int .i64 x.save, .bool x.lets, .bool x.waits, .int .i64 x.halt, (.slice A3x x.ins.length c3x), (.slice A4x x.outs.length c4x), .int .i64 x.count] 26 rfl
  generalize (w3.alloc (Obj.cells #[(.slice A1x x.regs.length c1x), .int .i64 x.pc, (.slice A2x x.mem.length c2x), .int .i64 x.save, .bool x.lets, .bool x.waits, .int .i64 x.halt, (.slice A3x x.ins.length c3x), (.slice A4x x.outs.length c4x), .int .i64 x.count] 26)) = w4 at *
  clear hBm_3 hFm_3 hb1_3 hb3_3
  have qxx : decide (x = x) = true := decide_eq_true rfl
  have ym : w1.heap.size < w4.heap.size := by omega
  have xm0 := hBm_4 0 _ rfl
  have xm1 := hBm_4 1 _ rfl
  have xm2 := hBm_4 2 _ rfl
  have xm3 := hBm_4 3 _ rfl
  have xm4 := hBm_4 4 _ rfl
  have xm5 := hBm_4 5 _ rfl
  have xm6 := hBm_4 6 _ rfl
  have xm7 := hBm_4 7 _ rfl
  have xm8 := hBm_4 8 _ rfl
  have xm9 := hBm_4 9 _ rfl
  have fm := hFm_4
  have yx : w3.heap.size < w4.heap.size := by omega
  have xx0 := hBx_4 0 _ rfl
  have xx1 := hBx_4 1 _ rfl
  have xx2 := hBx_4 2 _ rfl
  have xx3 := hBx_4 3 _ rfl
  have xx4 := hBx_4 4 _ rfl
  have xx5 := hBx_4 5 _ rfl
  have xx6 := hBx_4 6 _ rfl
  have xx7 := hBx_4 7 _ rfl
  have xx8 := hBx_4 8 _ rfl
  have xx9 := hBx_4 9 _ rfl
  have fx := hFx_4
  go_upto_region 5 with fail
  have hS : ∀ w', Ext w4 w' → ∀ bb oo, bb < w4.heap.size → w'.cell? ⟨bb, oo, none⟩ = w4.cell? ⟨bb, oo, none⟩ := fun w' hx bb oo hb => hx.cell hb
  refine wp_region_plan (fun w' => Ext w4 w') 5 (.float 0 (.float 1 (.float 2 (.float 3 (.chain 4 (.tail 5)))))) (by kernel_rfl) (by kernel_rfl) (Ext.refl _).drew ?_
  iterate 4 ((refine Plan.float_step (v := ?_) rfl (by rfl) (fun _ _ _ h => h) (fun w' hSw => ?_) ?_; rotate_left; · (go_simp; try with_reducible rfl)); (try simp only [Act.put, List.setIfInBounds_toArray, List.set_cons_zero, List.set_cons_succ]))
  refine Plan.chain_step rfl (fun K hK => ?_)
  go_simp
  refine (specRun_r m irqs n _ _ _ _ _ _ (tm1.ext (Ext.hold hb1_4)) (tm2.ext (Ext.hold hb1_4)) (tm3.ext (Ext.hold hb1_4)) (tm4.ext (Ext.hold hb1_4)) (ti.ext (Ext.hold hb1_4)) (by omega) (by omega) (by omega) (by omega) (by omega)).mono ?_
  intro e w5 hr
  rw [HX.out] at hr
  unfold MRet at hr
  obtain ⟨A1y, A2y, A3y, A4y, c1y, c2y, c3y, c4y, rfl, ty1, ty2, ty3, ty4, hy⟩ := hr
  refine hK.out _ _ (Ext.trans Ext.auto hy) ?_
  clear hK
  (try simp only [Act.put, List.setIfInBounds_toArray, List.set_cons_zero, List.set_cons_succ])
  have hb4_4 : Ext w4 w4 := Ext.refl _
  have hb1_5 : Ext w1 w5 := Ext.trans (Ext.hold hb1_4) hy
  have hb3_5 : Ext w3 w5 := Ext.trans (Ext.hold hb3_4) hy
  have hb4_5 : Ext w4 w5 := Ext.trans (Ext.hold hb4_4) hy
  have hs5 := hy.size
  try simp at hs5
  have he5 : Ext w w5 := Ext.trans (Ext.hold he4) hy
  have hBm_5 : Bx w5 (w1.heap.size) [(.slice A1m m.regs.length c1m), .int .i64 m.pc, (.slice A2m m.mem.length c2m), .int .i64 m.save, .bool m.lets, .bool m.waits, .int .i64 m.halt, (.slice A3m m.ins.length c3m), (.slice A4m m.outs.length c4m), .int .i64 m.count] := hy.bx (Bx.hold hBm_4) (by first | omega | (simp; done) | (simp; omega))
  have hFm_5 : ∀ oo, w5.frozen? ⟨w1.heap.size, oo, none⟩ = false := fun oo => (hy.frozen (by first | omega | (simp; done) | (simp; omega))).trans ((fz_hold hFm_4) oo)
  have hBx_5 : Bx w5 (w3.heap.size) [(.slice A1x x.regs.length c1x), .int .i64 x.pc, (.slice A2x x.mem.length c2x), .int .i64 x.save, .bool x.lets, .bool x.waits, .int .i64 x.halt, (.slice A3x x.ins.length c3x), (.slice A4x x.outs.length c4x), .int .i64 x.count] := hy.bx (Bx.hold hBx_4) (by first | omega | (simp; done) | (simp; omega))
  have hFx_5 : ∀ oo, w5.frozen? ⟨w3.heap.size, oo, none⟩ = false := fun oo => (hy.frozen (by first | omega | (simp; done) | (simp; omega))).trans ((fz_hold hFx_4) oo)
  try clear hBm_4 hFm_4 hBx_4 hFx_4
  clear hy hb1_4 hb3_4 hb4_4
  have hb5_5 : Ext w5 w5 := Ext.refl _
  refine Plan.tail_step ?_
  simp only [List.drop_succ_cons, List.drop_zero]
  clear hS
  clear xm0 xm1 xm2 xm3 xm4 xm5 xm6 xm7 xm8 xm9 ym
  clear fm
  clear xx0 xx1 xx2 xx3 xx4 xx5 xx6 xx7 xx8 xx9 yx
  clear fx
  have ym : w1.heap.size < w5.heap.size := by omega
  have xm0 := hBm_5 0 _ rfl
  have xm1 := hBm_5 1 _ rfl
  have xm2 := hBm_5 2 _ rfl
  have xm3 := hBm_5 3 _ rfl
  have xm4 := hBm_5 4 _ rfl
  have xm5 := hBm_5 5 _ rfl
  have xm6 := hBm_5 6 _ rfl
  have xm7 := hBm_5 7 _ rfl
  have xm8 := hBm_5 8 _ rfl
  have xm9 := hBm_5 9 _ rfl
  have fm := hFm_5
  have yx : w3.heap.size < w5.heap.size := by omega
  have xx0 := hBx_5 0 _ rfl
  have xx1 := hBx_5 1 _ rfl
  have xx2 := hBx_5 2 _ rfl
  have xx3 := hBx_5 3 _ rfl
  have xx4 := hBx_5 4 _ rfl
  have xx5 := hBx_5 5 _ rfl
  have xx6 := hBx_5 6 _ rfl
  have xx7 := hBx_5 7 _ rfl
  have xx8 := hBx_5 8 _ rfl
  have xx9 := hBx_5 9 _ rfl
  have fx := hFx_5
  go_wp2_with fail
  refine (laMach_any x x _ _ _ _ _ _ _ _ _ (tx1.ext (Ext.hold hb3_5)) (tx2.ext (Ext.hold hb3_5)) (tx3.ext (Ext.hold hb3_5)) (tx4.ext (Ext.hold hb3_5)) (ty1.ext (Ext.hold hb5_5)) (ty2.ext (Ext.hold hb5_5)) (ty3.ext (Ext.hold hb5_5)) (ty4.ext (Ext.hold hb5_5))).mono ?_
  rintro e w6 ⟨rfl, hy⟩
  simp only [qxx]
  clear xm0 xm1 xm2 xm3 xm4 xm5 xm6 xm7 xm8 xm9 ym
  clear fm
  clear xx0 xx1 xx2 xx3 xx4 xx5 xx6 xx7 xx8 xx9 yx
  clear fx
  have hb1_6 : Ext w1 w6 := Ext.trans (Ext.hold hb1_5) hy
  have hb3_6 : Ext w3 w6 := Ext.trans (Ext.hold hb3_5) hy
  have hb5_6 : Ext w5 w6 := Ext.trans (Ext.hold hb5_5) hy
  have hs6 := hy.size
  try simp at hs6
  have he6 : Ext w w6 := Ext.trans (Ext.hold he5) hy
  have hBm_6 : Bx w6 (w1.heap.size) [(.slice A1m m.regs.length c1m), .int .i64 m.pc, (.slice A2m m.mem.length c2m), .int .i64 m.save, .bool m.lets, .bool m.waits, .int .i64 m.halt, (.slice A3m m.ins.length c3m), (.slice A4m m.outs.length c4m), .int .i64 m.count] := hy.bx (Bx.hold hBm_5) (by first | omega | (simp; done) | (simp; omega))
  have hFm_6 : ∀ oo, w6.frozen? ⟨w1.heap.size, oo, none⟩ = false := fun oo => (hy.frozen (by first | omega | (simp; done) | (simp; omega))).trans ((fz_hold hFm_5) oo)
  have hBx_6 : Bx w6 (w3.heap.size) [(.slice A1x x.regs.length c1x), .int .i64 x.pc, (.slice A2x x.mem.length c2x), .int .i64 x.save, .bool x.lets, .bool x.waits, .int .i64 x.halt, (.slice A3x x.ins.length c3x), (.slice A4x x.outs.length c4x), .int .i64 x.count] := hy.bx (Bx.hold hBx_5) (by first | omega | (simp; done) | (simp; omega))
  have hFx_6 : ∀ oo, w6.frozen? ⟨w3.heap.size, oo, none⟩ = false := fun oo => (hy.frozen (by first | omega | (simp; done) | (simp; omega))).trans ((fz_hold hFx_5) oo)
  try clear hBm_5 hFm_5 hBx_5 hFx_5
  clear hy hb1_5 hb3_5 hb5_5
  cases q0 : mchOkB m
  · 
    have ym : w1.heap.size < w6.heap.size := by omega
    have xm0 := hBm_6 0 _ rfl
    have xm1 := hBm_6 1 _ rfl
    have xm2 := hBm_6 2 _ rfl
    have xm3 := hBm_6 3 _ rfl
    have xm4 := hBm_6 4 _ rfl
    have xm5 := hBm_6 5 _ rfl
    have xm6 := hBm_6 6 _ rfl
    have xm7 := hBm_6 7 _ rfl
    have xm8 := hBm_6 8 _ rfl
    have xm9 := hBm_6 9 _ rfl
    have fm := hFm_6
    have yx : w3.heap.size < w6.heap.size := by omega
    have xx0 := hBx_6 0 _ rfl
    have xx1 := hBx_6 1 _ rfl
    have xx2 := hBx_6 2 _ rfl
    have xx3 := hBx_6 3 _ rfl
    have xx4 := hBx_6 4 _ rfl
    have xx5 := hBx_6 5 _ rfl
    have xx6 := hBx_6 6 _ rfl
    have xx7 := hBx_6 7 _ rfl
    have xx8 := hBx_6 8 _ rfl
    have xx9 := hBx_6 9 _ rfl
    have fx := hFx_6
    go_wp2_with fail
    refine (specMchOk_any m _ _ _ _ _ (tm1.ext (Ext.hold hb1_6)) (tm2.ext (Ext.hold hb1_6)) (tm3.ext (Ext.hold hb1_6)) (tm4.ext (Ext.hold hb1_6))).mono ?_
    rintro e w7 ⟨rfl, hy⟩
    simp only [q0]
    clear xm0 xm1 xm2 xm3 xm4 xm5 xm6 xm7 xm8 xm9 ym
    clear fm
    clear xx0 xx1 xx2 xx3 xx4 xx5 xx6 xx7 xx8 xx9 yx
    clear fx
    have hb1_7 : Ext w1 w7 := Ext.trans (Ext.hold hb1_6) hy
    have hb3_7 : Ext w3 w7 := Ext.trans (Ext.hold hb3_6) hy
    have hb5_7 : Ext w5 w7 := Ext.trans (Ext.hold hb5_6) hy
    have hs7 := hy.size
    try simp at hs7
    have he7 : Ext w w7 := Ext.trans (Ext.hold he6) hy
    have hBm_7 : Bx w7 (w1.heap.size) [(.slice A1m m.regs.length c1m), .int .i64 m.pc, (.slice A2m m.mem.length c2m), .int .i64 m.save, .bool m.lets, .bool m.waits, .int .i64 m.halt, (.slice A3m m.ins.length c3m), (.slice A4m m.outs.length c4m), .int .i64 m.count] := hy.bx (Bx.hold hBm_6) (by first | omega | (simp; done) | (simp; omega))
    have hFm_7 : ∀ oo, w7.frozen? ⟨w1.heap.size, oo, none⟩ = false := fun oo => (hy.frozen (by first | omega | (simp; done) | (simp; omega))).trans ((fz_hold hFm_6) oo)
    have hBx_7 : Bx w7 (w3.heap.size) [(.slice A1x x.regs.length c1x), .int .i64 x.pc, (.slice A2x x.mem.length c2x), .int .i64 x.save, .bool x.lets, .bool x.waits, .int .i64 x.halt, (.slice A3x x.ins.length c3x), (.slice A4x x.outs.length c4x), .int .i64 x.count] := hy.bx (Bx.hold hBx_6) (by first | omega | (simp; done) | (simp; omega))
    have hFx_7 : ∀ oo, w7.frozen? ⟨w3.heap.size, oo, none⟩ = false := fun oo => (hy.frozen (by first | omega | (simp; done) | (simp; omega))).trans ((fz_hold hFx_6) oo)
    try clear hBm_6 hFm_6 hBx_6 hFx_6
    clear hy hb1_6 hb3_6 hb5_6
    have hx0 : x.regs.length = 0 := by rw [← HX.out, mRun_no q0]; rfl
    have qr : ((x.regs.length : Int) == 0) = true := by rw [hx0]; rfl
    clear hx0
    have ym : w1.heap.size < w7.heap.size := by omega
    have xm0 := hBm_7 0 _ rfl
    have xm1 := hBm_7 1 _ rfl
    have xm2 := hBm_7 2 _ rfl
    have xm3 := hBm_7 3 _ rfl
    have xm4 := hBm_7 4 _ rfl
    have xm5 := hBm_7 5 _ rfl
    have xm6 := hBm_7 6 _ rfl
    have xm7 := hBm_7 7 _ rfl
    have xm8 := hBm_7 8 _ rfl
    have xm9 := hBm_7 9 _ rfl
    have fm := hFm_7
    have yx : w3.heap.size < w7.heap.size := by omega
    have xx0 := hBx_7 0 _ rfl
    have xx1 := hBx_7 1 _ rfl
    have xx2 := hBx_7 2 _ rfl
    have xx3 := hBx_7 3 _ rfl
    have xx4 := hBx_7 4 _ rfl
    have xx5 := hBx_7 5 _ rfl
    have xx6 := hBx_7 6 _ rfl
    have xx7 := hBx_7 7 _ rfl
    have xx8 := hBx_7 8 _ rfl
    have xx9 := hBx_7 9 _ rfl
    have fx := hFx_7
    go_wp2_with (go_at_call 30; refine (laOk_any _).mono ?_; rintro e w' ⟨rfl, rfl⟩)
    go_ret
    exact ⟨rfl, Ext.hold he7⟩
  · 
    have ym : w1.heap.size < w6.heap.size := by omega
    have xm0 := hBm_6 0 _ rfl
    have xm1 := hBm_6 1 _ rfl
    have xm2 := hBm_6 2 _ rfl
    have xm3 := hBm_6 3 _ rfl
    have xm4 := hBm_6 4 _ rfl
    have xm5 := hBm_6 5 _ rfl
    have xm6 := hBm_6 6 _ rfl
    have xm7 := hBm_6 7 _ rfl
    have xm8 := hBm_6 8 _ rfl
    have xm9 := hBm_6 9 _ rfl
    have fm := hFm_6
    have yx : w3.heap.size < w6.heap.size := by omega
    have xx0 := hBx_6 0 _ rfl
    have xx1 := hBx_6 1 _ rfl
    have xx2 := hBx_6 2 _ rfl
    have xx3 := hBx_6 3 _ rfl
    have xx4 := hBx_6 4 _ rfl
    have xx5 := hBx_6 5 _ rfl
    have xx6 := hBx_6 6 _ rfl
    have xx7 := hBx_6 7 _ rfl
    have xx8 := hBx_6 8 _ rfl
    have xx9 := hBx_6 9 _ rfl
    have fx := hFx_6
    go_wp2_with fail
    refine (specMchOk_any m _ _ _ _ _ (tm1.ext (Ext.hold hb1_6)) (tm2.ext (Ext.hold hb1_6)) (tm3.ext (Ext.hold hb1_6)) (tm4.ext (Ext.hold hb1_6))).mono ?_
    rintro e w7 ⟨rfl, hy⟩
    simp only [q0]
    clear xm0 xm1 xm2 xm3 xm4 xm5 xm6 xm7 xm8 xm9 ym
    clear fm
    clear xx0 xx1 xx2 xx3 xx4 xx5 xx6 xx7 xx8 xx9 yx
    clear fx
    have hb1_7 : Ext w1 w7 := Ext.trans (Ext.hold hb1_6) hy
    have hb3_7 : Ext w3 w7 := Ext.trans (Ext.hold hb3_6) hy
    have hb5_7 : Ext w5 w7 := Ext.trans (Ext.hold hb5_6) hy
    have hs7 := hy.size
    try simp at hs7
    have he7 : Ext w w7 := Ext.trans (Ext.hold he6) hy
    have hBm_7 : Bx w7 (w1.heap.size) [(.slice A1m m.regs.length c1m), .int .i64 m.pc, (.slice A2m m.mem.length c2m), .int .i64 m.save, .bool m.lets, .bool m.waits, .int .i64 m.halt, (.slice A3m m.ins.length c3m), (.slice A4m m.outs.length c4m), .int .i64 m.count] := hy.bx (Bx.hold hBm_6) (by first | omega | (simp; done) | (simp; omega))
    have hFm_7 : ∀ oo, w7.frozen? ⟨w1.heap.size, oo, none⟩ = false := fun oo => (hy.frozen (by first | omega | (simp; done) | (simp; omega))).trans ((fz_hold hFm_6) oo)
    have hBx_7 : Bx w7 (w3.heap.size) [(.slice A1x x.regs.length c1x), .int .i64 x.pc, (.slice A2x x.mem.length c2x), .int .i64 x.save, .bool x.lets, .bool x.waits, .int .i64 x.halt, (.slice A3x x.ins.length c3x), (.slice A4x x.outs.length c4x), .int .i64 x.count] := hy.bx (Bx.hold hBx_6) (by first | omega | (simp; done) | (simp; omega))
    have hFx_7 : ∀ oo, w7.frozen? ⟨w3.heap.size, oo, none⟩ = false := fun oo => (hy.frozen (by first | omega | (simp; done) | (simp; omega))).trans ((fz_hold hFx_6) oo)
    try clear hBm_6 hFm_6 hBx_6 hFx_6
    clear hy hb1_6 hb3_6 hb5_6
    by_cases hn : 400 < n
    · 
      have q1 : decide (400 < n) = true := decide_eq_true hn
      have hx0 : x.regs.length = 0 := by rw [← HX.out, mRun_long hn]; rfl
      have qr : ((x.regs.length : Int) == 0) = true := by rw [hx0]; rfl
      clear hx0
      have ym : w1.heap.size < w7.heap.size := by omega
      have xm0 := hBm_7 0 _ rfl
      have xm1 := hBm_7 1 _ rfl
      have xm2 := hBm_7 2 _ rfl
      have xm3 := hBm_7 3 _ rfl
      have xm4 := hBm_7 4 _ rfl
      have xm5 := hBm_7 5 _ rfl
      have xm6 := hBm_7 6 _ rfl
      have xm7 := hBm_7 7 _ rfl
      have xm8 := hBm_7 8 _ rfl
      have xm9 := hBm_7 9 _ rfl
      have fm := hFm_7
      have yx : w3.heap.size < w7.heap.size := by omega
      have xx0 := hBx_7 0 _ rfl
      have xx1 := hBx_7 1 _ rfl
      have xx2 := hBx_7 2 _ rfl
      have xx3 := hBx_7 3 _ rfl
      have xx4 := hBx_7 4 _ rfl
      have xx5 := hBx_7 5 _ rfl
      have xx6 := hBx_7 6 _ rfl
      have xx7 := hBx_7 7 _ rfl
      have xx8 := hBx_7 8 _ rfl
      have xx9 := hBx_7 9 _ rfl
      have fx := hFx_7
      go_wp2_with (go_at_call 30; refine (laOk_any _).mono ?_; rintro e w' ⟨rfl, rfl⟩)
      go_ret
      exact ⟨rfl, Ext.hold he7⟩
    · 
      have q1 : decide (400 < n) = false := decide_eq_false hn
      have hn4 : n ≤ 400 := by omega
      by_cases hn1_ : n < 1
      · 
        have q2 : decide (n < 1) = true := decide_eq_true hn1_
        have hxm : x = m := by rw [← HX.out]; exact mRun_zero q0 hn1_
        have qxm : decide (x = m) = true := decide_eq_true hxm
        clear hxm
        have ym : w1.heap.size < w7.heap.size := by omega
        have xm0 := hBm_7 0 _ rfl
        have xm1 := hBm_7 1 _ rfl
        have xm2 := hBm_7 2 _ rfl
        have xm3 := hBm_7 3 _ rfl
        have xm4 := hBm_7 4 _ rfl
        have xm5 := hBm_7 5 _ rfl
        have xm6 := hBm_7 6 _ rfl
        have xm7 := hBm_7 7 _ rfl
        have xm8 := hBm_7 8 _ rfl
        have xm9 := hBm_7 9 _ rfl
        have fm := hFm_7
        have yx : w3.heap.size < w7.heap.size := by omega
        have xx0 := hBx_7 0 _ rfl
        have xx1 := hBx_7 1 _ rfl
        have xx2 := hBx_7 2 _ rfl
        have xx3 := hBx_7 3 _ rfl
        have xx4 := hBx_7 4 _ rfl
        have xx5 := hBx_7 5 _ rfl
        have xx6 := hBx_7 6 _ rfl
        have xx7 := hBx_7 7 _ rfl
        have xx8 := hBx_7 8 _ rfl
        have xx9 := hBx_7 9 _ rfl
        have fx := hFx_7
        go_wp2_with fail
        refine (laMach_any x m _ _ _ _ _ _ _ _ _ (tx1.ext (Ext.hold hb3_7)) (tx2.ext (Ext.hold hb3_7)) (tx3.ext (Ext.hold hb3_7)) (tx4.ext (Ext.hold hb3_7)) (tm1.ext (Ext.hold hb1_7)) (tm2.ext (Ext.hold hb1_7)) (tm3.ext (Ext.hold hb1_7)) (tm4.ext (Ext.hold hb1_7))).mono ?_
        rintro e w8 ⟨rfl, hy⟩
        simp only [qxm]
        clear xm0 xm1 xm2 xm3 xm4 xm5 xm6 xm7 xm8 xm9 ym
        clear fm
        clear xx0 xx1 xx2 xx3 xx4 xx5 xx6 xx7 xx8 xx9 yx
        clear fx
        have hb1_8 : Ext w1 w8 := Ext.trans (Ext.hold hb1_7) hy
        have hb3_8 : Ext w3 w8 := Ext.trans (Ext.hold hb3_7) hy
        have hb5_8 : Ext w5 w8 := Ext.trans (Ext.hold hb5_7) hy
        have hs8 := hy.size
        try simp at hs8
        have he8 : Ext w w8 := Ext.trans (Ext.hold he7) hy
        have hBm_8 : Bx w8 (w1.heap.size) [(.slice A1m m.regs.length c1m), .int .i64 m.pc, (.slice A2m m.mem.length c2m), .int .i64 m.save, .bool m.lets, .bool m.waits, .int .i64 m.halt, (.slice A3m m.ins.length c3m), (.slice A4m m.outs.length c4m), .int .i64 m.count] := hy.bx (Bx.hold hBm_7) (by first | omega | (simp; done) | (simp; omega))
        have hFm_8 : ∀ oo, w8.frozen? ⟨w1.heap.size, oo, none⟩ = false := fun oo => (hy.frozen (by first | omega | (simp; done) | (simp; omega))).trans ((fz_hold hFm_7) oo)
        have hBx_8 : Bx w8 (w3.heap.size) [(.slice A1x x.regs.length c1x), .int .i64 x.pc, (.slice A2x x.mem.length c2x), .int .i64 x.save, .bool x.lets, .bool x.waits, .int .i64 x.halt, (.slice A3x x.ins.length c3x), (.slice A4x x.outs.length c4x), .int .i64 x.count] := hy.bx (Bx.hold hBx_7) (by first | omega | (simp; done) | (simp; omega))
        have hFx_8 : ∀ oo, w8.frozen? ⟨w3.heap.size, oo, none⟩ = false := fun oo => (hy.frozen (by first | omega | (simp; done) | (simp; omega))).trans ((fz_hold hFx_7) oo)
        try clear hBm_7 hFm_7 hBx_7 hFx_7
        clear hy hb1_7 hb3_7 hb5_7
        have ym : w1.heap.size < w8.heap.size := by omega
        have xm0 := hBm_8 0 _ rfl
        have xm1 := hBm_8 1 _ rfl
        have xm2 := hBm_8 2 _ rfl
        have xm3 := hBm_8 3 _ rfl
        have xm4 := hBm_8 4 _ rfl
        have xm5 := hBm_8 5 _ rfl
        have xm6 := hBm_8 6 _ rfl
        have xm7 := hBm_8 7 _ rfl
        have xm8 := hBm_8 8 _ rfl
        have xm9 := hBm_8 9 _ rfl
        have fm := hFm_8
        have yx : w3.heap.size < w8.heap.size := by omega
        have xx0 := hBx_8 0 _ rfl
        have xx1 := hBx_8 1 _ rfl
        have xx2 := hBx_8 2 _ rfl
        have xx3 := hBx_8 3 _ rfl
        have xx4 := hBx_8 4 _ rfl
        have xx5 := hBx_8 5 _ rfl
        have xx6 := hBx_8 6 _ rfl
        have xx7 := hBx_8 7 _ rfl
        have xx8 := hBx_8 8 _ rfl
        have xx9 := hBx_8 9 _ rfl
        have fx := hFx_8
        go_wp2_with fail
        go_ret
        exact ⟨rfl, Ext.hold he8⟩
      · 
        have q2 : decide (n < 1) = false := decide_eq_false hn1_
        have hnn : 1 ≤ n := by omega
        have hk := mOk_iff.1 q0
        have hc0 := hk.c0
        have hc1 := hk.c1
        have hct := mIter_count irqs n.toNat m q0
        rw [← mRun_iter q0 hn4, HX.out] at hct
        have HCT := hide hct.2
        have hcx : x.count ≤ m.count + n := by omega
        obtain ⟨hy1, hy2, hy3, hy4⟩ := mRun_ok2 (irqs := irqs) (n := n / 2) q0 (by omega)
        have HAD := hide (mRun_add (irqs := irqs) q0 hn4 (show 0 ≤ n / 2 by omega) (show n / 2 ≤ n by omega))
        rw [HX.out] at HAD
        clear hk hct hn1_ hn
        have ym : w1.heap.size < w7.heap.size := by omega
        have xm0 := hBm_7 0 _ rfl
        have xm1 := hBm_7 1 _ rfl
        have xm2 := hBm_7 2 _ rfl
        have xm3 := hBm_7 3 _ rfl
        have xm4 := hBm_7 4 _ rfl
        have xm5 := hBm_7 5 _ rfl
        have xm6 := hBm_7 6 _ rfl
        have xm7 := hBm_7 7 _ rfl
        have xm8 := hBm_7 8 _ rfl
        have xm9 := hBm_7 9 _ rfl
        have fm := hFm_7
        have yx : w3.heap.size < w7.heap.size := by omega
        have xx0 := hBx_7 0 _ rfl
        have xx1 := hBx_7 1 _ rfl
        have xx2 := hBx_7 2 _ rfl
        have xx3 := hBx_7 3 _ rfl
        have xx4 := hBx_7 4 _ rfl
        have xx5 := hBx_7 5 _ rfl
        have xx6 := hBx_7 6 _ rfl
        have xx7 := hBx_7 7 _ rfl
        have xx8 := hBx_7 8 _ rfl
        have xx9 := hBx_7 9 _ rfl
        have fx := hFx_7
        go_upto_region 12 with fail
        clear xm0 xm1 xm2 xm3 xm4 xm5 xm6 xm7 xm8 xm9 ym
        clear fm
        clear xx0 xx1 xx2 xx3 xx4 xx5 xx6 xx7 xx8 xx9 yx
        clear fx
        clear q1 q2
        generalize hgy : mRun m irqs (n / 2) = y at *
        have HY := hide hgy
        clear hgy
        have W1 : IntKind.i64.wrap (m.count + n) = m.count + n := by rw [IntKind.wrap_i64]; omega
        have W2 : IntKind.i64.wrap (n - n / 2) = n - n / 2 := by rw [IntKind.wrap_i64]; omega
        have q3 : decide (m.count + n < x.count) = false := decide_eq_false (by omega)
        have ym : w1.heap.size < w7.heap.size := by omega
        have xm0 := hBm_7 0 _ rfl
        have xm1 := hBm_7 1 _ rfl
        have xm2 := hBm_7 2 _ rfl
        have xm3 := hBm_7 3 _ rfl
        have xm4 := hBm_7 4 _ rfl
        have xm5 := hBm_7 5 _ rfl
        have xm6 := hBm_7 6 _ rfl
        have xm7 := hBm_7 7 _ rfl
        have xm8 := hBm_7 8 _ rfl
        have xm9 := hBm_7 9 _ rfl
        have fm := hFm_7
        have yx : w3.heap.size < w7.heap.size := by omega
        have xx0 := hBx_7 0 _ rfl
        have xx1 := hBx_7 1 _ rfl
        have xx2 := hBx_7 2 _ rfl
        have xx3 := hBx_7 3 _ rfl
        have xx4 := hBx_7 4 _ rfl
        have xx5 := hBx_7 5 _ rfl
        have xx6 := hBx_7 6 _ rfl
        have xx7 := hBx_7 7 _ rfl
        have xx8 := hBx_7 8 _ rfl
        have xx9 := hBx_7 9 _ rfl
        have fx := hFx_7
        go_upto_region 12 with fail
        have hS : ∀ w', Ext w7 w' → ∀ bb oo, bb < w7.heap.size → w'.cell? ⟨bb, oo, none⟩ = w7.cell? ⟨bb, oo, none⟩ := fun w' hx bb oo hb => hx.cell hb
        refine wp_region_plan (fun w' => Ext w7 w') 19 (.float 0 (.float 1 (.float 2 (.float 4 (.float 5 (.float 6 (.float 7 (.float 9 (.chain 3 (.chain 8 (.chain 10 (.float 11 (.float 12 (.float 13 (.float 14 (.float 15 (.float 16 (.float 17 (.float 18 (.tail 19)))))))))))))))))))) (by kernel_rfl) (by kernel_rfl) (Ext.refl _).drew ?_
        iterate 8 ((refine Plan.float_step (v := ?_) rfl (by rfl) (fun _ _ _ h => h) (fun w' hSw => ?_) ?_; rotate_left; · (go_simp; try with_reducible rfl)); (try simp only [Act.put, List.setIfInBounds_toArray, List.set_cons_zero, List.set_cons_succ]))
        refine Plan.chain_step rfl (fun K hK => ?_)
        go_simp
        refine (implRun_r m irqs (n / 2) _ _ _ _ _ _ (tm1.ext (Ext.hold hb1_7)) (tm2.ext (Ext.hold hb1_7)) (tm3.ext (Ext.hold hb1_7)) (tm4.ext (Ext.hold hb1_7)) (ti.ext (Ext.hold hb1_7)) (by omega) (by omega) (by omega) (by omega) (by omega) lf (hF.ext (Ext.hold he7))).mono ?_
        intro e w8 hr
        rw [HY.out] at hr
        unfold MRet at hr
        obtain ⟨A1u, A2u, A3u, A4u, c1u, c2u, c3u, c4u, rfl, tu1, tu2, tu3, tu4, hy⟩ := hr
        refine hK.out _ _ (Ext.trans Ext.auto hy) ?_
        clear hK
        (try simp only [Act.put, List.setIfInBounds_toArray, List.set_cons_zero, List.set_cons_succ])
        have hb7_7 : Ext w7 w7 := Ext.refl _
        have hb1_8 : Ext w1 w8 := Ext.trans (Ext.hold hb1_7) hy
        have hb3_8 : Ext w3 w8 := Ext.trans (Ext.hold hb3_7) hy
        have hb5_8 : Ext w5 w8 := Ext.trans (Ext.hold hb5_7) hy
        have hb7_8 : Ext w7 w8 := Ext.trans (Ext.hold hb7_7) hy
        have hs8 := hy.size
        try simp at hs8
        have he8 : Ext w w8 := Ext.trans (Ext.hold he7) hy
        have hBm_8 : Bx w8 (w1.heap.size) [(.slice A1m m.regs.length c1m), .int .i64 m.pc, (.slice A2m m.mem.length c2m), .int .i64 m.save, .bool m.lets, .bool m.waits, .int .i64 m.halt, (.slice A3m m.ins.length c3m), (.slice A4m m.outs.length c4m), .int .i64 m.count] := hy.bx (Bx.hold hBm_7) (by first | omega | (simp; done) | (simp; omega))
        have hFm_8 : ∀ oo, w8.frozen? ⟨w1.heap.size, oo, none⟩ = false := fun oo => (hy.frozen (by first | omega | (simp; done) | (simp; omega))).trans ((fz_hold hFm_7) oo)
        have hBx_8 : Bx w8 (w3.heap.size) [(.slice A1x x.regs.length c1x), .int .i64 x.pc, (.slice A2x x.mem.length c2x), .int .i64 x.save, .bool x.lets, .bool x.waits, .int .i64 x.halt, (.slice A3x x.ins.length c3x), (.slice A4x x.outs.length c4x), .int .i64 x.count] := hy.bx (Bx.hold hBx_7) (by first | omega | (simp; done) | (simp; omega))
        have hFx_8 : ∀ oo, w8.frozen? ⟨w3.heap.size, oo, none⟩ = false := fun oo => (hy.frozen (by first | omega | (simp; done) | (simp; omega))).trans ((fz_hold hFx_7) oo)
        try clear hBm_7 hFm_7 hBx_7 hFx_7
        clear hy hb1_7 hb3_7 hb5_7 hb7_7
        have hb8_8 : Ext w8 w8 := Ext.refl _
        refine Plan.chain_step rfl (fun K hK => ?_)
        go_simp
        refine (implRun_r y irqs (n - n / 2) _ _ _ _ _ _ (tu1.ext (Ext.hold hb8_8)) (tu2.ext (Ext.hold hb8_8)) (tu3.ext (Ext.hold hb8_8)) (tu4.ext (Ext.hold hb8_8)) (ti.ext (Ext.hold hb1_8)) (by omega) (by omega) (by omega) (by omega) (by omega) lf (hF.ext (Ext.hold he8))).mono ?_
        intro e w9 hr
        rw [HAD.out] at hr
        unfold MRet at hr
        obtain ⟨A1z, A2z, A3z, A4z, c1z, c2z, c3z, c4z, rfl, tz1, tz2, tz3, tz4, hy⟩ := hr
        refine hK.out _ _ (Ext.trans (Ext.hold hb7_8) hy) ?_
        clear hK
        (try simp only [Act.put, List.setIfInBounds_toArray, List.set_cons_zero, List.set_cons_succ])
        have hb1_9 : Ext w1 w9 := Ext.trans (Ext.hold hb1_8) hy
        have hb3_9 : Ext w3 w9 := Ext.trans (Ext.hold hb3_8) hy
        have hb5_9 : Ext w5 w9 := Ext.trans (Ext.hold hb5_8) hy
        have hb7_9 : Ext w7 w9 := Ext.trans (Ext.hold hb7_8) hy
        have hb8_9 : Ext w8 w9 := Ext.trans (Ext.hold hb8_8) hy
        have hs9 := hy.size
        try simp at hs9
        have he9 : Ext w w9 := Ext.trans (Ext.hold he8) hy
        have hBm_9 : Bx w9 (w1.heap.size) [(.slice A1m m.regs.length c1m), .int .i64 m.pc, (.slice A2m m.mem.length c2m), .int .i64 m.save, .bool m.lets, .bool m.waits, .int .i64 m.halt, (.slice A3m m.ins.length c3m), (.slice A4m m.outs.length c4m), .int .i64 m.count] := hy.bx (Bx.hold hBm_8) (by first | omega | (simp; done) | (simp; omega))
        have hFm_9 : ∀ oo, w9.frozen? ⟨w1.heap.size, oo, none⟩ = false := fun oo => (hy.frozen (by first | omega | (simp; done) | (simp; omega))).trans ((fz_hold hFm_8) oo)
        have hBx_9 : Bx w9 (w3.heap.size) [(.slice A1x x.regs.length c1x), .int .i64 x.pc, (.slice A2x x.mem.length c2x), .int .i64 x.save, .bool x.lets, .bool x.waits, .int .i64 x.halt, (.slice A3x x.ins.length c3x), (.slice A4x x.outs.length c4x), .int .i64 x.count] := hy.bx (Bx.hold hBx_8) (by first | omega | (simp; done) | (simp; omega))
        have hFx_9 : ∀ oo, w9.frozen? ⟨w3.heap.size, oo, none⟩ = false := fun oo => (hy.frozen (by first | omega | (simp; done) | (simp; omega))).trans ((fz_hold hFx_8) oo)
        try clear hBm_8 hFm_8 hBx_8 hFx_8
        clear hy hb1_8 hb3_8 hb5_8 hb7_8 hb8_8
        have hb9_9 : Ext w9 w9 := Ext.refl _
        refine Plan.chain_step rfl (fun K hK => ?_)
        go_simp
        refine (laMach_any x x _ _ _ _ _ _ _ _ _ (tz1.ext (Ext.hold hb9_9)) (tz2.ext (Ext.hold hb9_9)) (tz3.ext (Ext.hold hb9_9)) (tz4.ext (Ext.hold hb9_9)) (tx1.ext (Ext.hold hb3_9)) (tx2.ext (Ext.hold hb3_9)) (tx3.ext (Ext.hold hb3_9)) (tx4.ext (Ext.hold hb3_9))).mono ?_
        rintro e w10 ⟨rfl, hy⟩
        simp only [qxx]
        refine hK.out _ _ (Ext.trans (Ext.hold hb7_9) hy) ?_
        clear hK
        (try simp only [Act.put, List.setIfInBounds_toArray, List.set_cons_zero, List.set_cons_succ])
        have hb1_10 : Ext w1 w10 := Ext.trans (Ext.hold hb1_9) hy
        have hb3_10 : Ext w3 w10 := Ext.trans (Ext.hold hb3_9) hy
        have hb5_10 : Ext w5 w10 := Ext.trans (Ext.hold hb5_9) hy
        have hb7_10 : Ext w7 w10 := Ext.trans (Ext.hold hb7_9) hy
        have hb8_10 : Ext w8 w10 := Ext.trans (Ext.hold hb8_9) hy
        have hb9_10 : Ext w9 w10 := Ext.trans (Ext.hold hb9_9) hy
        have hs10 := hy.size
        try simp at hs10
        have he10 : Ext w w10 := Ext.trans (Ext.hold he9) hy
        have hBm_10 : Bx w10 (w1.heap.size) [(.slice A1m m.regs.length c1m), .int .i64 m.pc, (.slice A2m m.mem.length c2m), .int .i64 m.save, .bool m.lets, .bool m.waits, .int .i64 m.halt, (.slice A3m m.ins.length c3m), (.slice A4m m.outs.length c4m), .int .i64 m.count] := hy.bx (Bx.hold hBm_9) (by first | omega | (simp; done) | (simp; omega))
        have hFm_10 : ∀ oo, w10.frozen? ⟨w1.heap.size, oo, none⟩ = false := fun oo => (hy.frozen (by first | omega | (simp; done) | (simp; omega))).trans ((fz_hold hFm_9) oo)
        have hBx_10 : Bx w10 (w3.heap.size) [(.slice A1x x.regs.length c1x), .int .i64 x.pc, (.slice A2x x.mem.length c2x), .int .i64 x.save, .bool x.lets, .bool x.waits, .int .i64 x.halt, (.slice A3x x.ins.length c3x), (.slice A4x x.outs.length c4x), .int .i64 x.count] := hy.bx (Bx.hold hBx_9) (by first | omega | (simp; done) | (simp; omega))
        have hFx_10 : ∀ oo, w10.frozen? ⟨w3.heap.size, oo, none⟩ = false := fun oo => (hy.frozen (by first | omega | (simp; done) | (simp; omega))).trans ((fz_hold hFx_9) oo)
        try clear hBm_9 hFm_9 hBx_9 hFx_9
        clear hy hb1_9 hb3_9 hb5_9 hb7_9 hb8_9 hb9_9
        iterate 2 ((refine Plan.float_step (v := ?_) rfl (by rfl) (fun _ _ _ h => h) (fun w' hSw => ?_) ?_; rotate_left; · (go_simp; try with_reducible rfl)); (try simp only [Act.put, List.setIfInBounds_toArray, List.set_cons_zero, List.set_cons_succ]))
        iterate 6 ((first | (refine Plan.float_step (v := ?_) rfl (by rfl) (fun _ _ _ h => h) (fun w' hSw => ?_) ?_; rotate_left; · (go_simp; try with_reducible rfl)) | (refine planNo rfl (by rfl) (fun _ _ _ h => h) ?_)); (try simp only [Act.put, List.setIfInBounds_toArray, List.set_cons_zero, List.set_cons_succ]))
        refine Plan.tail_step ?_
        simp only [List.drop_succ_cons, List.drop_zero]
        clear hS
        clear xm0 xm1 xm2 xm3 xm4 xm5 xm6 xm7 xm8 xm9 ym
        clear fm
        clear xx0 xx1 xx2 xx3 xx4 xx5 xx6 xx7 xx8 xx9 yx
        clear fx
        have ym : w1.heap.size < w10.heap.size := by omega
        have xm0 := hBm_10 0 _ rfl
        have xm1 := hBm_10 1 _ rfl
        have xm2 := hBm_10 2 _ rfl
        have xm3 := hBm_10 3 _ rfl
        have xm4 := hBm_10 4 _ rfl
        have xm5 := hBm_10 5 _ rfl
        have xm6 := hBm_10 6 _ rfl
        have xm7 := hBm_10 7 _ rfl
        have xm8 := hBm_10 8 _ rfl
        have xm9 := hBm_10 9 _ rfl
        have fm := hFm_10
        have yx : w3.heap.size < w10.heap.size := by omega
        have xx0 := hBx_10 0 _ rfl
        have xx1 := hBx_10 1 _ rfl
        have xx2 := hBx_10 2 _ rfl
        have xx3 := hBx_10 3 _ rfl
        have xx4 := hBx_10 4 _ rfl
        have xx5 := hBx_10 5 _ rfl
        have xx6 := hBx_10 6 _ rfl
        have xx7 := hBx_10 7 _ rfl
        have xx8 := hBx_10 8 _ rfl
        have xx9 := hBx_10 9 _ rfl
        have fx := hFx_10
        go_upto_region 14 with fail
        clear xm0 xm1 xm2 xm3 xm4 xm5 xm6 xm7 xm8 xm9 ym
        clear fm
        clear xx0 xx1 xx2 xx3 xx4 xx5 xx6 xx7 xx8 xx9 yx
        clear fx
        clear q3 W1 W2
        rcases HCT.out with h1 | h1 | h1
        · 
          have q4 : (x.halt != 0) = true := by simp [h1]
          clear h1
          have ym : w1.heap.size < w10.heap.size := by omega
          have xm0 := hBm_10 0 _ rfl
          have xm1 := hBm_10 1 _ rfl
          have xm2 := hBm_10 2 _ rfl
          have xm3 := hBm_10 3 _ rfl
          have xm4 := hBm_10 4 _ rfl
          have xm5 := hBm_10 5 _ rfl
          have xm6 := hBm_10 6 _ rfl
          have xm7 := hBm_10 7 _ rfl
          have xm8 := hBm_10 8 _ rfl
          have xm9 := hBm_10 9 _ rfl
          have fm := hFm_10
          have yx : w3.heap.size < w10.heap.size := by omega
          have xx0 := hBx_10 0 _ rfl
          have xx1 := hBx_10 1 _ rfl
          have xx2 := hBx_10 2 _ rfl
          have xx3 := hBx_10 3 _ rfl
          have xx4 := hBx_10 4 _ rfl
          have xx5 := hBx_10 5 _ rfl
          have xx6 := hBx_10 6 _ rfl
          have xx7 := hBx_10 7 _ rfl
          have xx8 := hBx_10 8 _ rfl
          have xx9 := hBx_10 9 _ rfl
          have fx := hFx_10
          go_wp2_with fail
          go_ret
          exact ⟨rfl, Ext.hold he10⟩
        · 
          by_cases h2 : x.halt ≠ 0
          · 
            have q4 : (x.halt != 0) = true := by simp [h2]
            clear h1 h2
            have ym : w1.heap.size < w10.heap.size := by omega
            have xm0 := hBm_10 0 _ rfl
            have xm1 := hBm_10 1 _ rfl
            have xm2 := hBm_10 2 _ rfl
            have xm3 := hBm_10 3 _ rfl
            have xm4 := hBm_10 4 _ rfl
            have xm5 := hBm_10 5 _ rfl
            have xm6 := hBm_10 6 _ rfl
            have xm7 := hBm_10 7 _ rfl
            have xm8 := hBm_10 8 _ rfl
            have xm9 := hBm_10 9 _ rfl
            have fm := hFm_10
            have yx : w3.heap.size < w10.heap.size := by omega
            have xx0 := hBx_10 0 _ rfl
            have xx1 := hBx_10 1 _ rfl
            have xx2 := hBx_10 2 _ rfl
            have xx3 := hBx_10 3 _ rfl
            have xx4 := hBx_10 4 _ rfl
            have xx5 := hBx_10 5 _ rfl
            have xx6 := hBx_10 6 _ rfl
            have xx7 := hBx_10 7 _ rfl
            have xx8 := hBx_10 8 _ rfl
            have xx9 := hBx_10 9 _ rfl
            have fx := hFx_10
            go_wp2_with fail
            go_ret
            exact ⟨rfl, Ext.hold he10⟩
          · 
            have q4 : (x.halt != 0) = false := by have h9 := Decidable.not_not.1 h2; simp [h9]
            clear h2
            have q5 : (x.count == m.count + n) = true := beq_iff_eq.2 (by omega)
            clear h1
            have ym : w1.heap.size < w10.heap.size := by omega
            have xm0 := hBm_10 0 _ rfl
            have xm1 := hBm_10 1 _ rfl
            have xm2 := hBm_10 2 _ rfl
            have xm3 := hBm_10 3 _ rfl
            have xm4 := hBm_10 4 _ rfl
            have xm5 := hBm_10 5 _ rfl
            have xm6 := hBm_10 6 _ rfl
            have xm7 := hBm_10 7 _ rfl
            have xm8 := hBm_10 8 _ rfl
            have xm9 := hBm_10 9 _ rfl
            have fm := hFm_10
            have yx : w3.heap.size < w10.heap.size := by omega
            have xx0 := hBx_10 0 _ rfl
            have xx1 := hBx_10 1 _ rfl
            have xx2 := hBx_10 2 _ rfl
            have xx3 := hBx_10 3 _ rfl
            have xx4 := hBx_10 4 _ rfl
            have xx5 := hBx_10 5 _ rfl
            have xx6 := hBx_10 6 _ rfl
            have xx7 := hBx_10 7 _ rfl
            have xx8 := hBx_10 8 _ rfl
            have xx9 := hBx_10 9 _ rfl
            have fx := hFx_10
            go_wp2_with fail
            go_ret
            exact ⟨rfl, Ext.hold he10⟩
        · 
          by_cases h2 : x.halt ≠ 0
          · 
            have q4 : (x.halt != 0) = true := by simp [h2]
            clear h1 h2
            have ym : w1.heap.size < w10.heap.size := by omega
            have xm0 := hBm_10 0 _ rfl
            have xm1 := hBm_10 1 _ rfl
            have xm2 := hBm_10 2 _ rfl
            have xm3 := hBm_10 3 _ rfl
            have xm4 := hBm_10 4 _ rfl
            have xm5 := hBm_10 5 _ rfl
            have xm6 := hBm_10 6 _ rfl
            have xm7 := hBm_10 7 _ rfl
            have xm8 := hBm_10 8 _ rfl
            have xm9 := hBm_10 9 _ rfl
            have fm := hFm_10
            have yx : w3.heap.size < w10.heap.size := by omega
            have xx0 := hBx_10 0 _ rfl
            have xx1 := hBx_10 1 _ rfl
            have xx2 := hBx_10 2 _ rfl
            have xx3 := hBx_10 3 _ rfl
            have xx4 := hBx_10 4 _ rfl
            have xx5 := hBx_10 5 _ rfl
            have xx6 := hBx_10 6 _ rfl
            have xx7 := hBx_10 7 _ rfl
            have xx8 := hBx_10 8 _ rfl
            have xx9 := hBx_10 9 _ rfl
            have fx := hFx_10
            go_wp2_with fail
            go_ret
            exact ⟨rfl, Ext.hold he10⟩
          · 
            have q4 : (x.halt != 0) = false := by have h9 := Decidable.not_not.1 h2; simp [h9]
            clear h2
            by_cases h3 : x.count = m.count + n
            · 
              have q5 : (x.count == m.count + n) = true := beq_iff_eq.2 h3
              clear h1 h3
              have ym : w1.heap.size < w10.heap.size := by omega
              have xm0 := hBm_10 0 _ rfl
              have xm1 := hBm_10 1 _ rfl
              have xm2 := hBm_10 2 _ rfl
              have xm3 := hBm_10 3 _ rfl
              have xm4 := hBm_10 4 _ rfl
              have xm5 := hBm_10 5 _ rfl
              have xm6 := hBm_10 6 _ rfl
              have xm7 := hBm_10 7 _ rfl
              have xm8 := hBm_10 8 _ rfl
              have xm9 := hBm_10 9 _ rfl
              have fm := hFm_10
              have yx : w3.heap.size < w10.heap.size := by omega
              have xx0 := hBx_10 0 _ rfl
              have xx1 := hBx_10 1 _ rfl
              have xx2 := hBx_10 2 _ rfl
              have xx3 := hBx_10 3 _ rfl
              have xx4 := hBx_10 4 _ rfl
              have xx5 := hBx_10 5 _ rfl
              have xx6 := hBx_10 6 _ rfl
              have xx7 := hBx_10 7 _ rfl
              have xx8 := hBx_10 8 _ rfl
              have xx9 := hBx_10 9 _ rfl
              have fx := hFx_10
              go_wp2_with fail
              go_ret
              exact ⟨rfl, Ext.hold he10⟩
            · 
              have q5 : (x.count == m.count + n) = false := beq_eq_false_iff_ne.2 h3
              have q6 : (x.count == 1000000) = true := beq_iff_eq.2 h1
              clear h1 h3
              have ym : w1.heap.size < w10.heap.size := by omega
              have xm0 := hBm_10 0 _ rfl
              have xm1 := hBm_10 1 _ rfl
              have xm2 := hBm_10 2 _ rfl
              have xm3 := hBm_10 3 _ rfl
              have xm4 := hBm_10 4 _ rfl
              have xm5 := hBm_10 5 _ rfl
              have xm6 := hBm_10 6 _ rfl
              have xm7 := hBm_10 7 _ rfl
              have xm8 := hBm_10 8 _ rfl
              have xm9 := hBm_10 9 _ rfl
              have fm := hFm_10
              have yx : w3.heap.size < w10.heap.size := by omega
              have xx0 := hBx_10 0 _ rfl
              have xx1 := hBx_10 1 _ rfl
              have xx2 := hBx_10 2 _ rfl
              have xx3 := hBx_10 3 _ rfl
              have xx4 := hBx_10 4 _ rfl
              have xx5 := hBx_10 5 _ rfl
              have xx6 := hBx_10 6 _ rfl
              have xx7 := hBx_10 7 _ rfl
              have xx8 := hBx_10 8 _ rfl
              have xx9 := hBx_10 9 _ rfl
              have fx := hFx_10
              go_wp2_with fail
              go_ret
              exact ⟨rfl, Ext.hold he10⟩

end Go.Proofs.YtabldlhigjhkeaaDoor
