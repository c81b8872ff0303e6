/-
  The law FnMchOne returns true for every input.
-/
import Derived.Test.YtabldlhigjhkeaaDoorLawStep
import Derived.Test.YtabldlhigjhkeaaDoorLawPure
import Derived.Test.YtabldlhigjhkeaaDoorRegLib
import Derived.Deep.DeepCutAuto
namespace Go.Proofs.YtabldlhigjhkeaaDoor
open Go.RowKit

set_option linter.unusedVariables false
set_option linter.unusedSimpArgs false
set_option maxRecDepth 100000

set_option maxHeartbeats 64000000 in
theorem lawMchOne_any (code : List UInt8) (v : Value) (w : World) (h : Sl w (Old w) v code) (lf : Nat) (hF : Forms lf w) : Calls Tryd.prog 5 #[v] w fun e w' => e = .returned (.bool true) ∧ Ext w w' := by
  obtain ⟨Ac, cc, rfl, -, -⟩ := h.form
  by_cases hbig : 1048576 < code.length
  · have q1 : decide (1048576 < (code.length : Int)) = true := decide_eq_true (by omega)
    go_enter Tryd.func5, Tryd.ntmps5
    go_wp2
    go_ret
    exact ⟨rfl, Ext.refl _⟩
  have q1 : decide (1048576 < (code.length : Int)) = false := decide_eq_false (by omega)
  go_enter Tryd.func5, Tryd.ntmps5
  go_wp2_with fail
  refine (drawMchStep_any code _ _ h).mono ?_
  intro e w1 hd
  unfold DStep at hd
  obtain ⟨m, A1m, A2m, A3m, A4m, c1m, c2m, c3m, c4m, b, rfl, ⟨hl1, hl2, hl3, hl4⟩, tm1, tm2, tm3, tm4, he1⟩ := hd
  have hs1 := he1.size
  have hb1_1 : Ext w1 w1 := Ext.refl _
  have HIW := hide True.intro
  clear q1 hbig
  go_upto_region 4 with fail
  have he2 : Ext w (w1.alloc (Obj.cells #[(.slice A1m m.regs.length c1m), .int .i64 m.pc, (.slice A2m m.mem.length c2m), .int .i64 m.save, .bool m.lets, .bool m.waits, .int .i64 m.halt, (.slice A3m m.ins.length c3m), (.slice A4m m.outs.length c4m), .int .i64 m.count] 26)) := Ext.hold he1
  have hs2 : w1.heap.size + 1 ≤ ((w1.alloc (Obj.cells #[(.slice A1m m.regs.length c1m), .int .i64 m.pc, (.slice A2m m.mem.length c2m), .int .i64 m.save, .bool m.lets, .bool m.waits, .int .i64 m.halt, (.slice A3m m.ins.length c3m), (.slice A4m m.outs.length c4m), .int .i64 m.count] 26))).heap.size := by simp
  have hb1_2 : Ext w1 (w1.alloc (Obj.cells #[(.slice A1m m.regs.length c1m), .int .i64 m.pc, (.slice A2m m.mem.length c2m), .int .i64 m.save, .bool m.lets, .bool m.waits, .int .i64 m.halt, (.slice A3m m.ins.length c3m), (.slice A4m m.outs.length c4m), .int .i64 m.count] 26)) := Ext.hold hb1_1
  have hBm_2 : Bx (w1.alloc (Obj.cells #[(.slice A1m m.regs.length c1m), .int .i64 m.pc, (.slice A2m m.mem.length c2m), .int .i64 m.save, .bool m.lets, .bool m.waits, .int .i64 m.halt, (.slice A3m m.ins.length c3m), (.slice A4m m.outs.length c4m), .int .i64 m.count] 26)) (w1.heap.size) [(.slice A1m m.regs.length c1m), .int .i64 m.pc, (.slice A2m m.mem.length c2m), .int .i64 m.save, .bool m.lets, .bool m.waits, .int .i64 m.halt, (.slice A3m m.ins.length c3m), (.slice A4m m.outs.length c4m), .int .i64 m.count] := Bx.new w1 #[(.slice A1m m.regs.length c1m), .int .i64 m.pc, (.slice A2m m.mem.length c2m), .int .i64 m.save, .bool m.lets, .bool m.waits, .int .i64 m.halt, (.slice A3m m.ins.length c3m), (.slice A4m m.outs.length c4m), .int .i64 m.count] 26
  have hFm_2 : ∀ oo, (w1.alloc (Obj.cells #[(.slice A1m m.regs.length c1m), .int .i64 m.pc, (.slice A2m m.mem.length c2m), .int .i64 m.save, .bool m.lets, .bool m.waits, .int .i64 m.halt, (.slice A3m m.ins.length c3m), (.slice A4m m.outs.length c4m), .int .i64 m.count] 26)).frozen? ⟨w1.heap.size, oo, none⟩ = false := fz_new w1 #[(.slice A1m m.regs.length c1m), .int .i64 m.pc, (.slice A2m m.mem.length c2m), .int .i64 m.save, .bool m.lets, .bool m.waits, .int .i64 m.halt, (.slice A3m m.ins.length c3m), (.slice A4m m.outs.length c4m), .int .i64 m.count] 26 rfl
  generalize (w1.alloc (Obj.cells #[(.slice A1m m.regs.length c1m), .int .i64 m.pc, (.slice A2m m.mem.length c2m), .int .i64 m.save, .bool m.lets, .bool m.waits, .int .i64 m.halt, (.slice A3m m.ins.length c3m), (.slice A4m m.outs.length c4m), .int .i64 m.count] 26)) = w2 at *
  clear hb1_1
  have ym : w1.heap.size < w2.heap.size := by omega
  have xm0 := hBm_2 0 _ rfl
  have xm1 := hBm_2 1 _ rfl
  have xm2 := hBm_2 2 _ rfl
  have xm3 := hBm_2 3 _ rfl
  have xm4 := hBm_2 4 _ rfl
  have xm5 := hBm_2 5 _ rfl
  have xm6 := hBm_2 6 _ rfl
  have xm7 := hBm_2 7 _ rfl
  have xm8 := hBm_2 8 _ rfl
  have xm9 := hBm_2 9 _ rfl
  have fm := hFm_2
  go_wp2_with fail
  refine (implStep_r m b _ _ _ _ _ (tm1.ext (Ext.hold hb1_2)) (tm2.ext (Ext.hold hb1_2)) (tm3.ext (Ext.hold hb1_2)) (tm4.ext (Ext.hold hb1_2)) (by omega) (by omega) (by omega) (by omega) (by omega) lf (hF.ext (Ext.hold he2))).mono ?_
  intro e w3 hr
  unfold MRet at hr
  obtain ⟨A1x, A2x, A3x, A4x, c1x, c2x, c3x, c4x, rfl, tx1, tx2, tx3, tx4, hy⟩ := hr
  have HX0 := hide (rfl : mStep m b = mStep m b)
  generalize hgx : mStep m b = x at *
  have HX := hide hgx
  clear hgx
  clear xm0 xm1 xm2 xm3 xm4 xm5 xm6 xm7 xm8 xm9 ym
  clear fm
  have hb1_3 : Ext w1 w3 := Ext.trans (Ext.hold hb1_2) hy
  have hs3 := hy.size
  try simp at hs3
  have he3 : Ext w w3 := Ext.trans (Ext.hold he2) hy
  have hBm_3 : Bx w3 (w1.heap.size) [(.slice A1m m.regs.length c1m), .int .i64 m.pc, (.slice A2m m.mem.length c2m), .int .i64 m.save, .bool m.lets, .bool m.waits, .int .i64 m.halt, (.slice A3m m.ins.length c3m), (.slice A4m m.outs.length c4m), .int .i64 m.count] := hy.bx (Bx.hold hBm_2) (by first | omega | (simp; done) | (simp; omega))
  have hFm_3 : ∀ oo, w3.frozen? ⟨w1.heap.size, oo, none⟩ = false := fun oo => (hy.frozen (by first | omega | (simp; done) | (simp; omega))).trans ((fz_hold hFm_2) oo)
  try clear hBm_2 hFm_2
  clear hy hb1_2
  have hb3_3 : Ext w3 w3 := Ext.refl _
  have ym : w1.heap.size < w3.heap.size := by omega
  have xm0 := hBm_3 0 _ rfl
  have xm1 := hBm_3 1 _ rfl
  have xm2 := hBm_3 2 _ rfl
  have xm3 := hBm_3 3 _ rfl
  have xm4 := hBm_3 4 _ rfl
  have xm5 := hBm_3 5 _ rfl
  have xm6 := hBm_3 6 _ rfl
  have xm7 := hBm_3 7 _ rfl
  have xm8 := hBm_3 8 _ rfl
  have xm9 := hBm_3 9 _ rfl
  have fm := hFm_3
  go_upto_region 5 with fail
  clear xm0 xm1 xm2 xm3 xm4 xm5 xm6 xm7 xm8 xm9 ym
  clear fm
  have he4 : Ext w (w3.alloc (Obj.cells #[(.slice A1x x.regs.length c1x), .int .i64 x.pc, (.slice A2x x.mem.length c2x), .int .i64 x.save, .bool x.lets, .bool x.waits, .int .i64 x.halt, (.slice A3x x.ins.length c3x), (.slice A4x x.outs.length c4x), .int .i64 x.count] 26)) := Ext.hold he3
  have hs4 : w3.heap.size + 1 ≤ ((w3.alloc (Obj.cells #[(.slice A1x x.regs.length c1x), .int .i64 x.pc, (.slice A2x x.mem.length c2x), .int .i64 x.save, .bool x.lets, .bool x.waits, .int .i64 x.halt, (.slice A3x x.ins.length c3x), (.slice A4x x.outs.length c4x), .int .i64 x.count] 26))).heap.size := by simp
  have hb1_4 : Ext w1 (w3.alloc (Obj.cells #[(.slice A1x x.regs.length c1x), .int .i64 x.pc, (.slice A2x x.mem.length c2x), .int .i64 x.save, .bool x.lets, .bool x.waits, .int .i64 x.halt, (.slice A3x x.ins.length c3x), (.slice A4x x.outs.length c4x), .int .i64 x.count] 26)) := Ext.hold hb1_3
  have hb3_4 : Ext w3 (w3.alloc (Obj.cells #[(.slice A1x x.regs.length c1x), .int .i64 x.pc, (.slice A2x x.mem.length c2x), .int .i64 x.save, .bool x.lets, .bool x.waits, .int .i64 x.halt, (.slice A3x x.ins.length c3x), (.slice A4x x.outs.length c4x), .int .i64 x.count] 26)) := Ext.hold hb3_3
  have hBm_4 : Bx (w3.alloc (Obj.cells #[(.slice A1x x.regs.length c1x), .int .i64 x.pc, (.slice A2x x.mem.length c2x), .int .i64 x.save, .bool x.lets, .bool x.waits, .int .i64 x.halt, (.slice A3x x.ins.length c3x), (.slice A4x x.outs.length c4x), .int .i64 x.count] 26)) (w1.heap.size) [(.slice A1m m.regs.length c1m), .int .i64 m.pc, (.slice A2m m.mem.length c2m), .int .i64 m.save, .bool m.lets, .bool m.waits, .int .i64 m.halt, (.slice A3m m.ins.length c3m), (.slice A4m m.outs.length c4m), .int .i64 m.count] := Bx.hold hBm_3
  have hFm_4 : ∀ oo, (w3.alloc (Obj.cells #[(.slice A1x x.regs.length c1x), .int .i64 x.pc, (.slice A2x x.mem.length c2x), .int .i64 x.save, .bool x.lets, .bool x.waits, .int .i64 x.halt, (.slice A3x x.ins.length c3x), (.slice A4x x.outs.length c4x), .int .i64 x.count] 26)).frozen? ⟨w1.heap.size, oo, none⟩ = false := fz_hold hFm_3
  have hBx_4 : Bx (w3.alloc (Obj.cells #[(.slice A1x x.regs.length c1x), .int .i64 x.pc, (.slice A2x x.mem.length c2x), .int .i64 x.save, .bool x.lets, .bool x.waits, .int .i64 x.halt, (.slice A3x x.ins.length c3x), (.slice A4x x.outs.length c4x), .int .i64 x.count] 26)) (w3.heap.size) [(.slice A1x x.regs.length c1x), .int .i64 x.pc, (.slice A2x x.mem.length c2x), .int .i64 x.save, .bool x.lets, .bool x.waits, .int .i64 x.halt, (.slice A3x x.ins.length c3x), (.slice A4x x.outs.length c4x), .int .i64 x.count] := Bx.new w3 #[(.slice A1x x.regs.length c1x), .int .i64 x.pc, (.slice A2x x.mem.length c2x), .int .i64 x.save, .bool x.lets, .bool x.waits, .int .i64 x.halt, (.slice A3x x.ins.length c3x), (.slice A4x x.outs.length c4x), .int .i64 x.count] 26
  have hFx_4 : ∀ oo, (w3.alloc (Obj.cells #[(.slice A1x x.regs.length c1x), .int .i64 x.pc, (.slice A2x x.mem.length c2x), .int .i64 x.save, .bool x.lets, .bool x.waits, .int .i64 x.halt, (.slice A3x x.ins.length c3x), (.slice A4x x.outs.length c4x), .int .i64 x.count] 26)).frozen? ⟨w3.heap.size, oo, none⟩ = false := fz_new w3 #[(.slice A1x x.regs.length c1x), .int .i64 x.pc, (.slice A2x x.mem.length c2x), .int .i64 x.save, .bool x.lets, .bool x.waits, .int .i64 x.halt, (.slice A3x x.ins.length c3x), (.slice A4x x.outs.length c4x), .int .i64 x.count] 26 rfl
  generalize (w3.alloc (Obj.cells #[(.slice A1x x.regs.length c1x), .int .i64 x.pc, (.slice A2x x.mem.length c2x), .int .i64 x.save, .bool x.lets, .bool x.waits, .int .i64 x.halt, (.slice A3x x.ins.length c3x), (.slice A4x x.outs.length c4x), .int .i64 x.count] 26)) = w4 at *
  clear hBm_3 hFm_3 hb1_3 hb3_3
  cases q0 : mchOkB m
  · 
    have hx0 : x.mem.length = 0 := by rw [← HX.out, mStep_no q0]; rfl
    have qr : ((x.mem.length : Int) == 0) = true := by rw [hx0]; rfl
    clear hx0
    have ym : w1.heap.size < w4.heap.size := by omega
    have xm0 := hBm_4 0 _ rfl
    have xm1 := hBm_4 1 _ rfl
    have xm2 := hBm_4 2 _ rfl
    have xm3 := hBm_4 3 _ rfl
    have xm4 := hBm_4 4 _ rfl
    have xm5 := hBm_4 5 _ rfl
    have xm6 := hBm_4 6 _ rfl
    have xm7 := hBm_4 7 _ rfl
    have xm8 := hBm_4 8 _ rfl
    have xm9 := hBm_4 9 _ rfl
    have fm := hFm_4
    have yx : w3.heap.size < w4.heap.size := by omega
    have xx0 := hBx_4 0 _ rfl
    have xx1 := hBx_4 1 _ rfl
    have xx2 := hBx_4 2 _ rfl
    have xx3 := hBx_4 3 _ rfl
    have xx4 := hBx_4 4 _ rfl
    have xx5 := hBx_4 5 _ rfl
    have xx6 := hBx_4 6 _ rfl
    have xx7 := hBx_4 7 _ rfl
    have xx8 := hBx_4 8 _ rfl
    have xx9 := hBx_4 9 _ rfl
    have fx := hFx_4
    go_wp2_with fail
    refine (specMchOk_any m _ _ _ _ _ (tm1.ext (Ext.hold hb1_4)) (tm2.ext (Ext.hold hb1_4)) (tm3.ext (Ext.hold hb1_4)) (tm4.ext (Ext.hold hb1_4))).mono ?_
    rintro e w5 ⟨rfl, hy⟩
    simp only [q0]
    clear xm0 xm1 xm2 xm3 xm4 xm5 xm6 xm7 xm8 xm9 ym
    clear fm
    clear xx0 xx1 xx2 xx3 xx4 xx5 xx6 xx7 xx8 xx9 yx
    clear fx
    have hb1_5 : Ext w1 w5 := Ext.trans (Ext.hold hb1_4) hy
    have hb3_5 : Ext w3 w5 := Ext.trans (Ext.hold hb3_4) hy
    have hs5 := hy.size
    try simp at hs5
    have he5 : Ext w w5 := Ext.trans (Ext.hold he4) hy
    have hBm_5 : Bx w5 (w1.heap.size) [(.slice A1m m.regs.length c1m), .int .i64 m.pc, (.slice A2m m.mem.length c2m), .int .i64 m.save, .bool m.lets, .bool m.waits, .int .i64 m.halt, (.slice A3m m.ins.length c3m), (.slice A4m m.outs.length c4m), .int .i64 m.count] := hy.bx (Bx.hold hBm_4) (by first | omega | (simp; done) | (simp; omega))
    have hFm_5 : ∀ oo, w5.frozen? ⟨w1.heap.size, oo, none⟩ = false := fun oo => (hy.frozen (by first | omega | (simp; done) | (simp; omega))).trans ((fz_hold hFm_4) oo)
    have hBx_5 : Bx w5 (w3.heap.size) [(.slice A1x x.regs.length c1x), .int .i64 x.pc, (.slice A2x x.mem.length c2x), .int .i64 x.save, .bool x.lets, .bool x.waits, .int .i64 x.halt, (.slice A3x x.ins.length c3x), (.slice A4x x.outs.length c4x), .int .i64 x.count] := hy.bx (Bx.hold hBx_4) (by first | omega | (simp; done) | (simp; omega))
    have hFx_5 : ∀ oo, w5.frozen? ⟨w3.heap.size, oo, none⟩ = false := fun oo => (hy.frozen (by first | omega | (simp; done) | (simp; omega))).trans ((fz_hold hFx_4) oo)
    try clear hBm_4 hFm_4 hBx_4 hFx_4
    clear hy hb1_4 hb3_4
    have ym : w1.heap.size < w5.heap.size := by omega
    have xm0 := hBm_5 0 _ rfl
    have xm1 := hBm_5 1 _ rfl
    have xm2 := hBm_5 2 _ rfl
    have xm3 := hBm_5 3 _ rfl
    have xm4 := hBm_5 4 _ rfl
    have xm5 := hBm_5 5 _ rfl
    have xm6 := hBm_5 6 _ rfl
    have xm7 := hBm_5 7 _ rfl
    have xm8 := hBm_5 8 _ rfl
    have xm9 := hBm_5 9 _ rfl
    have fm := hFm_5
    have yx : w3.heap.size < w5.heap.size := by omega
    have xx0 := hBx_5 0 _ rfl
    have xx1 := hBx_5 1 _ rfl
    have xx2 := hBx_5 2 _ rfl
    have xx3 := hBx_5 3 _ rfl
    have xx4 := hBx_5 4 _ rfl
    have xx5 := hBx_5 5 _ rfl
    have xx6 := hBx_5 6 _ rfl
    have xx7 := hBx_5 7 _ rfl
    have xx8 := hBx_5 8 _ rfl
    have xx9 := hBx_5 9 _ rfl
    have fx := hFx_5
    go_wp2_with (go_at_call 30; refine (laOk_any _).mono ?_; rintro e w' ⟨rfl, rfl⟩)
    go_ret
    exact ⟨rfl, Ext.hold he5⟩
  · 
    have hk := mOk_iff.1 q0
    have hkx := mOk_iff.1 (show mchOkB x = true by rw [← HX.out]; exact mStep_ok hk b)
    have HD := hide (mStep_one hk b)
    rw [HX.out] at HD
    have HMR := hide hk.rl
    have HMM := hide hk.ml
    have HXR := hide hkx.rl
    have HXM := hide hkx.ml
    clear hk hkx
    have ym : w1.heap.size < w4.heap.size := by omega
    have xm0 := hBm_4 0 _ rfl
    have xm1 := hBm_4 1 _ rfl
    have xm2 := hBm_4 2 _ rfl
    have xm3 := hBm_4 3 _ rfl
    have xm4 := hBm_4 4 _ rfl
    have xm5 := hBm_4 5 _ rfl
    have xm6 := hBm_4 6 _ rfl
    have xm7 := hBm_4 7 _ rfl
    have xm8 := hBm_4 8 _ rfl
    have xm9 := hBm_4 9 _ rfl
    have fm := hFm_4
    have yx : w3.heap.size < w4.heap.size := by omega
    have xx0 := hBx_4 0 _ rfl
    have xx1 := hBx_4 1 _ rfl
    have xx2 := hBx_4 2 _ rfl
    have xx3 := hBx_4 3 _ rfl
    have xx4 := hBx_4 4 _ rfl
    have xx5 := hBx_4 5 _ rfl
    have xx6 := hBx_4 6 _ rfl
    have xx7 := hBx_4 7 _ rfl
    have xx8 := hBx_4 8 _ rfl
    have xx9 := hBx_4 9 _ rfl
    have fx := hFx_4
    go_wp2_with fail
    refine (specMchOk_any m _ _ _ _ _ (tm1.ext (Ext.hold hb1_4)) (tm2.ext (Ext.hold hb1_4)) (tm3.ext (Ext.hold hb1_4)) (tm4.ext (Ext.hold hb1_4))).mono ?_
    rintro e w5 ⟨rfl, hy⟩
    simp only [q0]
    clear xm0 xm1 xm2 xm3 xm4 xm5 xm6 xm7 xm8 xm9 ym
    clear fm
    clear xx0 xx1 xx2 xx3 xx4 xx5 xx6 xx7 xx8 xx9 yx
    clear fx
    have hb1_5 : Ext w1 w5 := Ext.trans (Ext.hold hb1_4) hy
    have hb3_5 : Ext w3 w5 := Ext.trans (Ext.hold hb3_4) hy
    have hs5 := hy.size
    try simp at hs5
    have he5 : Ext w w5 := Ext.trans (Ext.hold he4) hy
    have hBm_5 : Bx w5 (w1.heap.size) [(.slice A1m m.regs.length c1m), .int .i64 m.pc, (.slice A2m m.mem.length c2m), .int .i64 m.save, .bool m.lets, .bool m.waits, .int .i64 m.halt, (.slice A3m m.ins.length c3m), (.slice A4m m.outs.length c4m), .int .i64 m.count] := hy.bx (Bx.hold hBm_4) (by first | omega | (simp; done) | (simp; omega))
    have hFm_5 : ∀ oo, w5.frozen? ⟨w1.heap.size, oo, none⟩ = false := fun oo => (hy.frozen (by first | omega | (simp; done) | (simp; omega))).trans ((fz_hold hFm_4) oo)
    have hBx_5 : Bx w5 (w3.heap.size) [(.slice A1x x.regs.length c1x), .int .i64 x.pc, (.slice A2x x.mem.length c2x), .int .i64 x.save, .bool x.lets, .bool x.waits, .int .i64 x.halt, (.slice A3x x.ins.length c3x), (.slice A4x x.outs.length c4x), .int .i64 x.count] := hy.bx (Bx.hold hBx_4) (by first | omega | (simp; done) | (simp; omega))
    have hFx_5 : ∀ oo, w5.frozen? ⟨w3.heap.size, oo, none⟩ = false := fun oo => (hy.frozen (by first | omega | (simp; done) | (simp; omega))).trans ((fz_hold hFx_4) oo)
    try clear hBm_4 hFm_4 hBx_4 hFx_4
    clear hy hb1_4 hb3_4
    have ym : w1.heap.size < w5.heap.size := by omega
    have xm0 := hBm_5 0 _ rfl
    have xm1 := hBm_5 1 _ rfl
    have xm2 := hBm_5 2 _ rfl
    have xm3 := hBm_5 3 _ rfl
    have xm4 := hBm_5 4 _ rfl
    have xm5 := hBm_5 5 _ rfl
    have xm6 := hBm_5 6 _ rfl
    have xm7 := hBm_5 7 _ rfl
    have xm8 := hBm_5 8 _ rfl
    have xm9 := hBm_5 9 _ rfl
    have fm := hFm_5
    have yx : w3.heap.size < w5.heap.size := by omega
    have xx0 := hBx_5 0 _ rfl
    have xx1 := hBx_5 1 _ rfl
    have xx2 := hBx_5 2 _ rfl
    have xx3 := hBx_5 3 _ rfl
    have xx4 := hBx_5 4 _ rfl
    have xx5 := hBx_5 5 _ rfl
    have xx6 := hBx_5 6 _ rfl
    have xx7 := hBx_5 7 _ rfl
    have xx8 := hBx_5 8 _ rfl
    have xx9 := hBx_5 9 _ rfl
    have fx := hFx_5
    go_wp2_with fail
    go_loopw [6, 7] (fun vn vk wz => ∃ (j_ t_ : Nat), vk = .int .i64 (j_ : Int) ∧ j_ ≤ 4 ∧ vn = .int .i64 ((diffs j_ x.regs m.regs : Nat) : Int) ∧ wz = w5.drewN t_) (fun _ vk _ => 4 - (intOf vk).toNat)
    case atStart => exact ⟨0, 0, rfl, by omega, rfl, rfl⟩
    case round =>
      obtain ⟨k, t, rfl, hk_regs, rfl, rfl⟩ := hrel
      by_cases hlt_regs : k < 4
      · 
        have q1 : decide ((k : Int) < 4) = true := decide_eq_true (by omega)
        have hlm : k < m.regs.length := by have := HMR.out; omega
        have hlx : k < x.regs.length := by have := HXR.out; omega
        obtain ⟨bx, ox, rfl, hbx, hkx, e0⟩ := at_Int ((tx1.ext (show Ext w3 w5 from Ext.hold hb3_5))) hlx
        obtain ⟨bm, om, rfl, hbm, hkm, g0⟩ := at_Int ((tm1.ext (show Ext w1 w5 from Ext.hold hb1_5))) hlm
        have z0 : (0 : Int) ≤ (k : Int) := by omega
        have z1 : (k : Int) < (x.regs.length : Int) := by omega
        have z2 : (k : Int) < (m.regs.length : Int) := by omega
        have HN := hide (diffs_next hlx hlm)
        have hdb := diffs_lek k x.regs m.regs
        have hdc := diffs_lek 4 x.regs m.regs
        skip
        go_wp2_with fail
        by_cases hq : x.regs[k] = m.regs[k]
        · 
          have d1 : (x.regs[k] != m.regs[k]) = false := by simp [hq]
          have HQ := hide hq
          clear hq
          go_quiet (fail)
          go_wp2
          go_round
          case rel => exact ⟨k + 1, t + nq, by go_num, by omega, by rw [HN.out, if_pos HQ.out]; rfl, by simp⟩
          case measure => (simp [intOf]; try omega)
        · 
          have d1 : (x.regs[k] != m.regs[k]) = true := by simp [hq]
          have HQ := hide hq
          clear hq
          go_quiet (fail)
          go_wp2
          go_round
          case rel => exact ⟨k + 1, t + nq, by go_num, by omega, by rw [HN.out, if_neg HQ.out]; go_num, by simp⟩
          case measure => (simp [intOf]; try omega)
      · 
        have q1 : decide ((k : Int) < 4) = false := decide_eq_false (by omega)
        have ym : w1.heap.size < w5.heap.size := by omega
        have xm0 := hBm_5 0 _ rfl
        have xm1 := hBm_5 1 _ rfl
        have xm2 := hBm_5 2 _ rfl
        have xm3 := hBm_5 3 _ rfl
        have xm4 := hBm_5 4 _ rfl
        have xm5 := hBm_5 5 _ rfl
        have xm6 := hBm_5 6 _ rfl
        have xm7 := hBm_5 7 _ rfl
        have xm8 := hBm_5 8 _ rfl
        have xm9 := hBm_5 9 _ rfl
        have fm := hFm_5
        have yx : w3.heap.size < w5.heap.size := by omega
        have xx0 := hBx_5 0 _ rfl
        have xx1 := hBx_5 1 _ rfl
        have xx2 := hBx_5 2 _ rfl
        have xx3 := hBx_5 3 _ rfl
        have xx4 := hBx_5 4 _ rfl
        have xx5 := hBx_5 5 _ rfl
        have xx6 := hBx_5 6 _ rfl
        have xx7 := hBx_5 7 _ rfl
        have xx8 := hBx_5 8 _ rfl
        have xx9 := hBx_5 9 _ rfl
        have fx := hFx_5
        go_wp2_with fail
        go_loopw [6, 8] (fun vn vk wz => ∃ (j_ t_ : Nat), vk = .int .i64 (j_ : Int) ∧ j_ ≤ 64 ∧ vn = .int .i64 ((diffs k x.regs m.regs + diffs j_ x.mem m.mem : Nat) : Int) ∧ wz = w5.drewN t_) (fun _ vk _ => 64 - (intOf vk).toNat)
        case atStart => exact ⟨0, t, rfl, by omega, rfl, rfl⟩
        case round =>
          obtain ⟨i, u, rfl, hk_mem, rfl, rfl⟩ := hrel
          by_cases hlt_mem : i < 64
          · 
            have q1 : decide ((i : Int) < 64) = true := decide_eq_true (by omega)
            have hlm : i < m.mem.length := by have := HMM.out; omega
            have hlx : i < x.mem.length := by have := HXM.out; omega
            obtain ⟨bx, ox, rfl, hbx, hkx, e0⟩ := at_Int ((tx2.ext (show Ext w3 w5 from Ext.hold hb3_5))) hlx
            obtain ⟨bm, om, rfl, hbm, hkm, g0⟩ := at_Int ((tm2.ext (show Ext w1 w5 from Ext.hold hb1_5))) hlm
            have z0 : (0 : Int) ≤ (i : Int) := by omega
            have z1 : (i : Int) < (x.mem.length : Int) := by omega
            have z2 : (i : Int) < (m.mem.length : Int) := by omega
            have HN := hide (diffs_next hlx hlm)
            have hdb := diffs_lek i x.mem m.mem
            have hdc := diffs_lek 4 x.regs m.regs
            have hde := diffs_lek k x.regs m.regs
            go_wp2_with fail
            by_cases hq : x.mem[i] = m.mem[i]
            · 
              have d1 : (x.mem[i] != m.mem[i]) = false := by simp [hq]
              have HQ := hide hq
              clear hq
              go_quiet (fail)
              go_wp2
              go_round
              case rel => exact ⟨i + 1, u + nq, by go_num, by omega, by rw [HN.out, if_pos HQ.out]; rfl, by simp⟩
              case measure => (simp [intOf]; try omega)
            · 
              have d1 : (x.mem[i] != m.mem[i]) = true := by simp [hq]
              have HQ := hide hq
              clear hq
              go_quiet (fail)
              go_wp2
              go_round
              case rel => exact ⟨i + 1, u + nq, by go_num, by omega, by rw [HN.out, if_neg HQ.out]; go_num, by simp⟩
              case measure => (simp [intOf]; try omega)
          · 
            have q1 : decide ((i : Int) < 64) = false := decide_eq_false (by omega)
            have hk4 : k = 4 := by omega
            have hi64 : i = 64 := by omega
            subst hk4 hi64
            have hdd := HD.out
            have q2 : decide (diffs 4 x.regs m.regs + diffs 64 x.mem m.mem ≤ 1) = true := decide_eq_true hdd
            have q3 : decide (((diffs 4 x.regs m.regs : Nat) : Int) + ((diffs 64 x.mem m.mem : Nat) : Int) ≤ 1) = true := decide_eq_true (by omega)
            go_wp2
            go_ret
            exact ⟨rfl, (Ext.drewN he5 _)⟩

end Go.Proofs.YtabldlhigjhkeaaDoor
