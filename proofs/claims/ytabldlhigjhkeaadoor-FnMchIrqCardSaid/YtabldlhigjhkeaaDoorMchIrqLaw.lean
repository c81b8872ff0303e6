/-
  The law FnMchIrq returns true for every input.
-/
import Derived.Test.YtabldlhigjhkeaaDoorLawStep
import Derived.Test.YtabldlhigjhkeaaDoorLaMach
import Derived.Test.YtabldlhigjhkeaaDoorLawPure
import Derived.Test.YtabldlhigjhkeaaDoorRegLib
import Derived.Deep.DeepCutAuto
namespace Go.Proofs.YtabldlhigjhkeaaDoor
open Go.RowKit

set_option linter.unusedVariables false
set_option linter.unusedSimpArgs false
set_option maxRecDepth 100000

set_option maxHeartbeats 64000000 in
theorem lawMchIrq_any (code : List UInt8) (v : Value) (w : World) (h : Sl w (Old w) v code) (lf : Nat) (hF : Forms lf w) : Calls Tryd.prog 9 #[v] w fun e w' => e = .returned (.bool true) ∧ Ext w w' := by
  obtain ⟨Ac, cc, rfl, -, -⟩ := h.form
  by_cases hbig : 1048576 < code.length
  · have q1 : decide (1048576 < (code.length : Int)) = true := decide_eq_true (by omega)
    go_enter Tryd.func9, Tryd.ntmps9
    go_wp2
    go_ret
    exact ⟨rfl, Ext.refl _⟩
  have q1 : decide (1048576 < (code.length : Int)) = false := decide_eq_false (by omega)
  go_enter Tryd.func9, Tryd.ntmps9
  go_wp2_with fail
  refine (drawMchStep_any code _ _ h).mono ?_
  intro e w1 hd
  unfold DStep at hd
  obtain ⟨m, A1m, A2m, A3m, A4m, c1m, c2m, c3m, c4m, b, rfl, ⟨hl1, hl2, hl3, hl4⟩, tm1, tm2, tm3, tm4, he1⟩ := hd
  have hs1 := he1.size
  have hb1_1 : Ext w1 w1 := Ext.refl _
  have HIW := hide True.intro
  clear q1 hbig
  go_upto_region 4 with fail
  have he2 : Ext w (w1.alloc (Obj.cells #[(.slice A1m m.regs.length c1m), .int .i64 m.pc, (.slice A2m m.mem.length c2m), .int .i64 m.save, .bool m.lets, .bool m.waits, .int .i64 m.halt, (.slice A3m m.ins.length c3m), (.slice A4m m.outs.length c4m), .int .i64 m.count] 26)) := Ext.hold he1
  have hs2 : w1.heap.size + 1 ≤ ((w1.alloc (Obj.cells #[(.slice A1m m.regs.length c1m), .int .i64 m.pc, (.slice A2m m.mem.length c2m), .int .i64 m.save, .bool m.lets, .bool m.waits, .int .i64 m.halt, (.slice A3m m.ins.length c3m), (.slice A4m m.outs.length c4m), .int .i64 m.count] 26))).heap.size := by simp
  have hb1_2 : Ext w1 (w1.alloc (Obj.cells #[(.slice A1m m.regs.length c1m), .int .i64 m.pc, (.slice A2m m.mem.length c2m), .int .i64 m.save, .bool m.lets, .bool m.waits, .int .i64 m.halt, (.slice A3m m.ins.length c3m), (.slice A4m m.outs.length c4m), .int .i64 m.count] 26)) := Ext.hold hb1_1
  have hBm_2 : Bx (w1.alloc (Obj.cells #[(.slice A1m m.regs.length c1m), .int .i64 m.pc, (.slice A2m m.mem.length c2m), .int .i64 m.save, .bool m.lets, .bool m.waits, .int .i64 m.halt, (.slice A3m m.ins.length c3m), (.slice A4m m.outs.length c4m), .int .i64 m.count] 26)) (w1.heap.size) [(.slice A1m m.regs.length c1m), .int .i64 m.pc, (.slice A2m m.mem.length c2m), .int .i64 m.save, .bool m.lets, .bool m.waits, .int .i64 m.halt, (.slice A3m m.ins.length c3m), (.slice A4m m.outs.length c4m), .int .i64 m.count] := Bx.new w1 #[(.slice A1m m.regs.length c1m), .int .i64 m.pc, (.slice A2m m.mem.length c2m), .int .i64 m.save, .bool m.lets, .bool m.waits, .int .i64 m.halt, (.slice A3m m.ins.length c3m), (.slice A4m m.outs.length c4m), .int .i64 m.count] 26
  have hFm_2 : ∀ oo, (w1.alloc (Obj.cells #[(.slice A1m m.regs.length c1m), .int .i64 m.pc, (.slice A2m m.mem.length c2m), .int .i64 m.save, .bool m.lets, .bool m.waits, .int .i64 m.halt, (.slice A3m m.ins.length c3m), (.slice A4m m.outs.length c4m), .int .i64 m.count] 26)).frozen? ⟨w1.heap.size, oo, none⟩ = false := fz_new w1 #[(.slice A1m m.regs.length c1m), .int .i64 m.pc, (.slice A2m m.mem.length c2m), .int .i64 m.save, .bool m.lets, .bool m.waits, .int .i64 m.halt, (.slice A3m m.ins.length c3m), (.slice A4m m.outs.length c4m), .int .i64 m.count] 26 rfl
  generalize (w1.alloc (Obj.cells #[(.slice A1m m.regs.length c1m), .int .i64 m.pc, (.slice A2m m.mem.length c2m), .int .i64 m.save, .bool m.lets, .bool m.waits, .int .i64 m.halt, (.slice A3m m.ins.length c3m), (.slice A4m m.outs.length c4m), .int .i64 m.count] 26)) = w2 at *
  clear hb1_1
  cases q0 : mchOkB m
  · 
    have ym : w1.heap.size < w2.heap.size := by omega
    have xm0 := hBm_2 0 _ rfl
    have xm1 := hBm_2 1 _ rfl
    have xm2 := hBm_2 2 _ rfl
    have xm3 := hBm_2 3 _ rfl
    have xm4 := hBm_2 4 _ rfl
    have xm5 := hBm_2 5 _ rfl
    have xm6 := hBm_2 6 _ rfl
    have xm7 := hBm_2 7 _ rfl
    have xm8 := hBm_2 8 _ rfl
    have xm9 := hBm_2 9 _ rfl
    have fm := hFm_2
    go_wp2_with fail
    refine (specMchOk_any m _ _ _ _ _ (tm1.ext (Ext.hold hb1_2)) (tm2.ext (Ext.hold hb1_2)) (tm3.ext (Ext.hold hb1_2)) (tm4.ext (Ext.hold hb1_2))).mono ?_
    rintro e w3 ⟨rfl, hy⟩
    simp only [q0]
    clear xm0 xm1 xm2 xm3 xm4 xm5 xm6 xm7 xm8 xm9 ym
    clear fm
    have hb1_3 : Ext w1 w3 := Ext.trans (Ext.hold hb1_2) hy
    have hs3 := hy.size
    try simp at hs3
    have he3 : Ext w w3 := Ext.trans (Ext.hold he2) hy
    have hBm_3 : Bx w3 (w1.heap.size) [(.slice A1m m.regs.length c1m), .int .i64 m.pc, (.slice A2m m.mem.length c2m), .int .i64 m.save, .bool m.lets, .bool m.waits, .int .i64 m.halt, (.slice A3m m.ins.length c3m), (.slice A4m m.outs.length c4m), .int .i64 m.count] := hy.bx (Bx.hold hBm_2) (by first | omega | (simp; done) | (simp; omega))
    have hFm_3 : ∀ oo, w3.frozen? ⟨w1.heap.size, oo, none⟩ = false := fun oo => (hy.frozen (by first | omega | (simp; done) | (simp; omega))).trans ((fz_hold hFm_2) oo)
    try clear hBm_2 hFm_2
    clear hy hb1_2
    have ym : w1.heap.size < w3.heap.size := by omega
    have xm0 := hBm_3 0 _ rfl
    have xm1 := hBm_3 1 _ rfl
    have xm2 := hBm_3 2 _ rfl
    have xm3 := hBm_3 3 _ rfl
    have xm4 := hBm_3 4 _ rfl
    have xm5 := hBm_3 5 _ rfl
    have xm6 := hBm_3 6 _ rfl
    have xm7 := hBm_3 7 _ rfl
    have xm8 := hBm_3 8 _ rfl
    have xm9 := hBm_3 9 _ rfl
    have fm := hFm_3
    go_wp2_with (go_at_call 30; refine (laOk_any _).mono ?_; rintro e w' ⟨rfl, rfl⟩)
    go_ret
    exact ⟨rfl, Ext.hold he3⟩
  · 
    have ym : w1.heap.size < w2.heap.size := by omega
    have xm0 := hBm_2 0 _ rfl
    have xm1 := hBm_2 1 _ rfl
    have xm2 := hBm_2 2 _ rfl
    have xm3 := hBm_2 3 _ rfl
    have xm4 := hBm_2 4 _ rfl
    have xm5 := hBm_2 5 _ rfl
    have xm6 := hBm_2 6 _ rfl
    have xm7 := hBm_2 7 _ rfl
    have xm8 := hBm_2 8 _ rfl
    have xm9 := hBm_2 9 _ rfl
    have fm := hFm_2
    go_wp2_with fail
    refine (specMchOk_any m _ _ _ _ _ (tm1.ext (Ext.hold hb1_2)) (tm2.ext (Ext.hold hb1_2)) (tm3.ext (Ext.hold hb1_2)) (tm4.ext (Ext.hold hb1_2))).mono ?_
    rintro e w3 ⟨rfl, hy⟩
    simp only [q0]
    clear xm0 xm1 xm2 xm3 xm4 xm5 xm6 xm7 xm8 xm9 ym
    clear fm
    have hb1_3 : Ext w1 w3 := Ext.trans (Ext.hold hb1_2) hy
    have hs3 := hy.size
    try simp at hs3
    have he3 : Ext w w3 := Ext.trans (Ext.hold he2) hy
    have hBm_3 : Bx w3 (w1.heap.size) [(.slice A1m m.regs.length c1m), .int .i64 m.pc, (.slice A2m m.mem.length c2m), .int .i64 m.save, .bool m.lets, .bool m.waits, .int .i64 m.halt, (.slice A3m m.ins.length c3m), (.slice A4m m.outs.length c4m), .int .i64 m.count] := hy.bx (Bx.hold hBm_2) (by first | omega | (simp; done) | (simp; omega))
    have hFm_3 : ∀ oo, w3.frozen? ⟨w1.heap.size, oo, none⟩ = false := fun oo => (hy.frozen (by first | omega | (simp; done) | (simp; omega))).trans ((fz_hold hFm_2) oo)
    try clear hBm_2 hFm_2
    clear hy hb1_2
    have hk := mOk_iff.1 q0
    have HK := hide hk
    have hc1 := hk.c1
    clear hk
    by_cases h0 : m.halt = 0
    · 
      by_cases h1 : m.count = 1000000
      · 
        have q1 : (m.halt != 0) = false := by simp [h0]
        have q2 : (m.count == 1000000) = true := by simp [h1]
        clear h0 h1
        have ym : w1.heap.size < w3.heap.size := by omega
        have xm0 := hBm_3 0 _ rfl
        have xm1 := hBm_3 1 _ rfl
        have xm2 := hBm_3 2 _ rfl
        have xm3 := hBm_3 3 _ rfl
        have xm4 := hBm_3 4 _ rfl
        have xm5 := hBm_3 5 _ rfl
        have xm6 := hBm_3 6 _ rfl
        have xm7 := hBm_3 7 _ rfl
        have xm8 := hBm_3 8 _ rfl
        have xm9 := hBm_3 9 _ rfl
        have fm := hFm_3
        go_wp2_with (go_at_call 30; refine (laOk_any _).mono ?_; rintro e w' ⟨rfl, rfl⟩)
        go_ret
        exact ⟨rfl, Ext.hold he3⟩
      · 
        have q1 : (m.halt != 0) = false := by simp [h0]
        have q2 : (m.count == 1000000) = false := by simp [h1]
        have HG := hide (mGoes_iff.2 ⟨h0, show m.count < 1000000 by omega⟩)
        clear h0 h1
        have ym : w1.heap.size < w3.heap.size := by omega
        have xm0 := hBm_3 0 _ rfl
        have xm1 := hBm_3 1 _ rfl
        have xm2 := hBm_3 2 _ rfl
        have xm3 := hBm_3 3 _ rfl
        have xm4 := hBm_3 4 _ rfl
        have xm5 := hBm_3 5 _ rfl
        have xm6 := hBm_3 6 _ rfl
        have xm7 := hBm_3 7 _ rfl
        have xm8 := hBm_3 8 _ rfl
        have xm9 := hBm_3 9 _ rfl
        have fm := hFm_3
        go_upto_region 6 with fail
        clear xm0 xm1 xm2 xm3 xm4 xm5 xm6 xm7 xm8 xm9 ym
        clear fm
        clear q1 q2
        have ym : w1.heap.size < w3.heap.size := by omega
        have xm0 := hBm_3 0 _ rfl
        have xm1 := hBm_3 1 _ rfl
        have xm2 := hBm_3 2 _ rfl
        have xm3 := hBm_3 3 _ rfl
        have xm4 := hBm_3 4 _ rfl
        have xm5 := hBm_3 5 _ rfl
        have xm6 := hBm_3 6 _ rfl
        have xm7 := hBm_3 7 _ rfl
        have xm8 := hBm_3 8 _ rfl
        have xm9 := hBm_3 9 _ rfl
        have fm := hFm_3
        go_wp2_with fail
        refine (implStep_r m b _ _ _ _ _ (tm1.ext (Ext.hold hb1_3)) (tm2.ext (Ext.hold hb1_3)) (tm3.ext (Ext.hold hb1_3)) (tm4.ext (Ext.hold hb1_3)) (by omega) (by omega) (by omega) (by omega) (by omega) lf (hF.ext (Ext.hold he3))).mono ?_
        intro e w4 hr
        unfold MRet at hr
        obtain ⟨A1x, A2x, A3x, A4x, c1x, c2x, c3x, c4x, rfl, tx1, tx2, tx3, tx4, hy⟩ := hr
        have HX0 := hide (rfl : mStep m b = mStep m b)
        generalize hgx : mStep m b = x at *
        have HX := hide hgx
        clear hgx
        clear xm0 xm1 xm2 xm3 xm4 xm5 xm6 xm7 xm8 xm9 ym
        clear fm
        have hb1_4 : Ext w1 w4 := Ext.trans (Ext.hold hb1_3) hy
        have hs4 := hy.size
        try simp at hs4
        have he4 : Ext w w4 := Ext.trans (Ext.hold he3) hy
        have hBm_4 : Bx w4 (w1.heap.size) [(.slice A1m m.regs.length c1m), .int .i64 m.pc, (.slice A2m m.mem.length c2m), .int .i64 m.save, .bool m.lets, .bool m.waits, .int .i64 m.halt, (.slice A3m m.ins.length c3m), (.slice A4m m.outs.length c4m), .int .i64 m.count] := hy.bx (Bx.hold hBm_3) (by first | omega | (simp; done) | (simp; omega))
        have hFm_4 : ∀ oo, w4.frozen? ⟨w1.heap.size, oo, none⟩ = false := fun oo => (hy.frozen (by first | omega | (simp; done) | (simp; omega))).trans ((fz_hold hFm_3) oo)
        try clear hBm_3 hFm_3
        clear hy hb1_3
        have hb4_4 : Ext w4 w4 := Ext.refl _
        have ym : w1.heap.size < w4.heap.size := by omega
        have xm0 := hBm_4 0 _ rfl
        have xm1 := hBm_4 1 _ rfl
        have xm2 := hBm_4 2 _ rfl
        have xm3 := hBm_4 3 _ rfl
        have xm4 := hBm_4 4 _ rfl
        have xm5 := hBm_4 5 _ rfl
        have xm6 := hBm_4 6 _ rfl
        have xm7 := hBm_4 7 _ rfl
        have xm8 := hBm_4 8 _ rfl
        have xm9 := hBm_4 9 _ rfl
        have fm := hFm_4
        go_upto_region 7 with fail
        clear xm0 xm1 xm2 xm3 xm4 xm5 xm6 xm7 xm8 xm9 ym
        clear fm
        have he5 : Ext w (w4.alloc (Obj.cells #[(.slice A1x x.regs.length c1x), .int .i64 x.pc, (.slice A2x x.mem.length c2x), .int .i64 x.save, .bool x.lets, .bool x.waits, .int .i64 x.halt, (.slice A3x x.ins.length c3x), (.slice A4x x.outs.length c4x), .int .i64 x.count] 26)) := Ext.hold he4
        have hs5 : w4.heap.size + 1 ≤ ((w4.alloc (Obj.cells #[(.slice A1x x.regs.length c1x), .int .i64 x.pc, (.slice A2x x.mem.length c2x), .int .i64 x.save, .bool x.lets, .bool x.waits, .int .i64 x.halt, (.slice A3x x.ins.length c3x), (.slice A4x x.outs.length c4x), .int .i64 x.count] 26))).heap.size := by simp
        have hb1_5 : Ext w1 (w4.alloc (Obj.cells #[(.slice A1x x.regs.length c1x), .int .i64 x.pc, (.slice A2x x.mem.length c2x), .int .i64 x.save, .bool x.lets, .bool x.waits, .int .i64 x.halt, (.slice A3x x.ins.length c3x), (.slice A4x x.outs.length c4x), .int .i64 x.count] 26)) := Ext.hold hb1_4
        have hb4_5 : Ext w4 (w4.alloc (Obj.cells #[(.slice A1x x.regs.length c1x), .int .i64 x.pc, (.slice A2x x.mem.length c2x), .int .i64 x.save, .bool x.lets, .bool x.waits, .int .i64 x.halt, (.slice A3x x.ins.length c3x), (.slice A4x x.outs.length c4x), .int .i64 x.count] 26)) := Ext.hold hb4_4
        have hBm_5 : Bx (w4.alloc (Obj.cells #[(.slice A1x x.regs.length c1x), .int .i64 x.pc, (.slice A2x x.mem.length c2x), .int .i64 x.save, .bool x.lets, .bool x.waits, .int .i64 x.halt, (.slice A3x x.ins.length c3x), (.slice A4x x.outs.length c4x), .int .i64 x.count] 26)) (w1.heap.size) [(.slice A1m m.regs.length c1m), .int .i64 m.pc, (.slice A2m m.mem.length c2m), .int .i64 m.save, .bool m.lets, .bool m.waits, .int .i64 m.halt, (.slice A3m m.ins.length c3m), (.slice A4m m.outs.length c4m), .int .i64 m.count] := Bx.hold hBm_4
        have hFm_5 : ∀ oo, (w4.alloc (Obj.cells #[(.slice A1x x.regs.length c1x), .int .i64 x.pc, (.slice A2x x.mem.length c2x), .int .i64 x.save, .bool x.lets, .bool x.waits, .int .i64 x.halt, (.slice A3x x.ins.length c3x), (.slice A4x x.outs.length c4x), .int .i64 x.count] 26)).frozen? ⟨w1.heap.size, oo, none⟩ = false := fz_hold hFm_4
        have hBx_5 : Bx (w4.alloc (Obj.cells #[(.slice A1x x.regs.length c1x), .int .i64 x.pc, (.slice A2x x.mem.length c2x), .int .i64 x.save, .bool x.lets, .bool x.waits, .int .i64 x.halt, (.slice A3x x.ins.length c3x), (.slice A4x x.outs.length c4x), .int .i64 x.count] 26)) (w4.heap.size) [(.slice A1x x.regs.length c1x), .int .i64 x.pc, (.slice A2x x.mem.length c2x), .int .i64 x.save, .bool x.lets, .bool x.waits, .int .i64 x.halt, (.slice A3x x.ins.length c3x), (.slice A4x x.outs.length c4x), .int .i64 x.count] := Bx.new w4 #[(.slice A1x x.regs.length c1x), .int .i64 x.pc, (.slice A2x x.mem.length c2x), .int .i64 x.save, .bool x.lets, .bool x.waits, .int .i64 x.halt, (.slice A3x x.ins.length c3x), (.slice A4x x.outs.length c4x), .int .i64 x.count] 26
        have hFx_5 : ∀ oo, (w4.alloc (Obj.cells #[(.slice A1x x.regs.length c1x), .int .i64 x.pc, (.slice A2x x.mem.length c2x), .int .i64 x.save, .bool x.lets, .bool x.waits, .int .i64 x.halt, (.slice A3x x.ins.length c3x), (.slice A4x x.outs.length c4x), .int .i64 x.count] 26)).frozen? ⟨w4.heap.size, oo, none⟩ = false := fz_new w4 #[(.slice A1x x.regs.length c1x), .int .i64 x.pc, (.slice A2x x.mem.length c2x), .int .i64 x.save, .bool x.lets, .bool x.waits, .int .i64 x.halt, (.slice A3x x.ins.length c3x), (.slice A4x x.outs.length c4x), .int .i64 x.count] 26 rfl
        generalize (w4.alloc (Obj.cells #[(.slice A1x x.regs.length c1x), .int .i64 x.pc, (.slice A2x x.mem.length c2x), .int .i64 x.save, .bool x.lets, .bool x.waits, .int .i64 x.halt, (.slice A3x x.ins.length c3x), (.slice A4x x.outs.length c4x), .int .i64 x.count] 26)) = w5 at *
        clear hBm_4 hFm_4 hb1_4 hb4_4
        have HZ := hide (mStep_irq HK.out HG.out b)
        rw [HX.out] at HZ
        have ym : w1.heap.size < w5.heap.size := by omega
        have xm0 := hBm_5 0 _ rfl
        have xm1 := hBm_5 1 _ rfl
        have xm2 := hBm_5 2 _ rfl
        have xm3 := hBm_5 3 _ rfl
        have xm4 := hBm_5 4 _ rfl
        have xm5 := hBm_5 5 _ rfl
        have xm6 := hBm_5 6 _ rfl
        have xm7 := hBm_5 7 _ rfl
        have xm8 := hBm_5 8 _ rfl
        have xm9 := hBm_5 9 _ rfl
        have fm := hFm_5
        have yx : w4.heap.size < w5.heap.size := by omega
        have xx0 := hBx_5 0 _ rfl
        have xx1 := hBx_5 1 _ rfl
        have xx2 := hBx_5 2 _ rfl
        have xx3 := hBx_5 3 _ rfl
        have xx4 := hBx_5 4 _ rfl
        have xx5 := hBx_5 5 _ rfl
        have xx6 := hBx_5 6 _ rfl
        have xx7 := hBx_5 7 _ rfl
        have xx8 := hBx_5 8 _ rfl
        have xx9 := hBx_5 9 _ rfl
        have fx := hFx_5
        go_upto_region 8 with fail
        clear xm0 xm1 xm2 xm3 xm4 xm5 xm6 xm7 xm8 xm9 ym
        clear fm
        clear xx0 xx1 xx2 xx3 xx4 xx5 xx6 xx7 xx8 xx9 yx
        clear fx
        have he6 : Ext w (w5.alloc (Obj.cells #[(.slice A1m m.regs.length c1m), .int .i64 m.pc, (.slice A2m m.mem.length c2m), .int .i64 m.save, .bool m.lets, .bool m.waits, .int .i64 m.halt, (.slice A3m m.ins.length c3m), (.slice A4m m.outs.length c4m), .int .i64 m.count] 26)) := Ext.hold he5
        have hs6 : w5.heap.size + 1 ≤ ((w5.alloc (Obj.cells #[(.slice A1m m.regs.length c1m), .int .i64 m.pc, (.slice A2m m.mem.length c2m), .int .i64 m.save, .bool m.lets, .bool m.waits, .int .i64 m.halt, (.slice A3m m.ins.length c3m), (.slice A4m m.outs.length c4m), .int .i64 m.count] 26))).heap.size := by simp
        have hb1_6 : Ext w1 (w5.alloc (Obj.cells #[(.slice A1m m.regs.length c1m), .int .i64 m.pc, (.slice A2m m.mem.length c2m), .int .i64 m.save, .bool m.lets, .bool m.waits, .int .i64 m.halt, (.slice A3m m.ins.length c3m), (.slice A4m m.outs.length c4m), .int .i64 m.count] 26)) := Ext.hold hb1_5
        have hb4_6 : Ext w4 (w5.alloc (Obj.cells #[(.slice A1m m.regs.length c1m), .int .i64 m.pc, (.slice A2m m.mem.length c2m), .int .i64 m.save, .bool m.lets, .bool m.waits, .int .i64 m.halt, (.slice A3m m.ins.length c3m), (.slice A4m m.outs.length c4m), .int .i64 m.count] 26)) := Ext.hold hb4_5
        have hBm_6 : Bx (w5.alloc (Obj.cells #[(.slice A1m m.regs.length c1m), .int .i64 m.pc, (.slice A2m m.mem.length c2m), .int .i64 m.save, .bool m.lets, .bool m.waits, .int .i64 m.halt, (.slice A3m m.ins.length c3m), (.slice A4m m.outs.length c4m), .int .i64 m.count] 26)) (w1.heap.size) [(.slice A1m m.regs.length c1m), .int .i64 m.pc, (.slice A2m m.mem.length c2m), .int .i64 m.save, .bool m.lets, .bool m.waits, .int .i64 m.halt, (.slice A3m m.ins.length c3m), (.slice A4m m.outs.length c4m), .int .i64 m.count] := Bx.hold hBm_5
        have hFm_6 : ∀ oo, (w5.alloc (Obj.cells #[(.slice A1m m.regs.length c1m), .int .i64 m.pc, (.slice A2m m.mem.length c2m), .int .i64 m.save, .bool m.lets, .bool m.waits, .int .i64 m.halt, (.slice A3m m.ins.length c3m), (.slice A4m m.outs.length c4m), .int .i64 m.count] 26)).frozen? ⟨w1.heap.size, oo, none⟩ = false := fz_hold hFm_5
        have hBx_6 : Bx (w5.alloc (Obj.cells #[(.slice A1m m.regs.length c1m), .int .i64 m.pc, (.slice A2m m.mem.length c2m), .int .i64 m.save, .bool m.lets, .bool m.waits, .int .i64 m.halt, (.slice A3m m.ins.length c3m), (.slice A4m m.outs.length c4m), .int .i64 m.count] 26)) (w4.heap.size) [(.slice A1x x.regs.length c1x), .int .i64 x.pc, (.slice A2x x.mem.length c2x), .int .i64 x.save, .bool x.lets, .bool x.waits, .int .i64 x.halt, (.slice A3x x.ins.length c3x), (.slice A4x x.outs.length c4x), .int .i64 x.count] := Bx.hold hBx_5
        have hFx_6 : ∀ oo, (w5.alloc (Obj.cells #[(.slice A1m m.regs.length c1m), .int .i64 m.pc, (.slice A2m m.mem.length c2m), .int .i64 m.save, .bool m.lets, .bool m.waits, .int .i64 m.halt, (.slice A3m m.ins.length c3m), (.slice A4m m.outs.length c4m), .int .i64 m.count] 26)).frozen? ⟨w4.heap.size, oo, none⟩ = false := fz_hold hFx_5
        have hBy_6 : Bx (w5.alloc (Obj.cells #[(.slice A1m m.regs.length c1m), .int .i64 m.pc, (.slice A2m m.mem.length c2m), .int .i64 m.save, .bool m.lets, .bool m.waits, .int .i64 m.halt, (.slice A3m m.ins.length c3m), (.slice A4m m.outs.length c4m), .int .i64 m.count] 26)) (w5.heap.size) [(.slice A1m m.regs.length c1m), .int .i64 m.pc, (.slice A2m m.mem.length c2m), .int .i64 m.save, .bool m.lets, .bool m.waits, .int .i64 m.halt, (.slice A3m m.ins.length c3m), (.slice A4m m.outs.length c4m), .int .i64 m.count] := Bx.new w5 #[(.slice A1m m.regs.length c1m), .int .i64 m.pc, (.slice A2m m.mem.length c2m), .int .i64 m.save, .bool m.lets, .bool m.waits, .int .i64 m.halt, (.slice A3m m.ins.length c3m), (.slice A4m m.outs.length c4m), .int .i64 m.count] 26
        have hFy_6 : ∀ oo, (w5.alloc (Obj.cells #[(.slice A1m m.regs.length c1m), .int .i64 m.pc, (.slice A2m m.mem.length c2m), .int .i64 m.save, .bool m.lets, .bool m.waits, .int .i64 m.halt, (.slice A3m m.ins.length c3m), (.slice A4m m.outs.length c4m), .int .i64 m.count] 26)).frozen? ⟨w5.heap.size, oo, none⟩ = false := fz_new w5 #[(.slice A1m m.regs.length c1m), .int .i64 m.pc, (.slice A2m m.mem.length c2m), .int .i64 m.save, .bool m.lets, .bool m.waits, .int .i64 m.halt, (.slice A3m m.ins.length c3m), (.slice A4m m.outs.length c4m), .int .i64 m.count] 26 rfl
        generalize (w5.alloc (Obj.cells #[(.slice A1m m.regs.length c1m), .int .i64 m.pc, (.slice A2m m.mem.length c2m), .int .i64 m.save, .bool m.lets, .bool m.waits, .int .i64 m.halt, (.slice A3m m.ins.length c3m), (.slice A4m m.outs.length c4m), .int .i64 m.count] 26)) = w6 at *
        clear hBm_5 hFm_5 hBx_5 hFx_5 hb1_5 hb4_5
        obtain ⟨on, hon⟩ : ∃ on : Bool, on = (m.waits || b) := ⟨_, rfl⟩
        have HON := hide hon
        clear hon
        go_cut [] (fun wx => Ext w wx ∧ Ext w1 wx ∧ Ext w4 wx ∧ w6.heap.size ≤ wx.heap.size ∧ Bx wx (w1.heap.size) [(.slice A1m m.regs.length c1m), .int .i64 m.pc, (.slice A2m m.mem.length c2m), .int .i64 m.save, .bool m.lets, .bool m.waits, .int .i64 m.halt, (.slice A3m m.ins.length c3m), (.slice A4m m.outs.length c4m), .int .i64 m.count] ∧ (∀ oo, wx.frozen? ⟨w1.heap.size, oo, none⟩ = false) ∧ Bx wx (w4.heap.size) [(.slice A1x x.regs.length c1x), .int .i64 x.pc, (.slice A2x x.mem.length c2x), .int .i64 x.save, .bool x.lets, .bool x.waits, .int .i64 x.halt, (.slice A3x x.ins.length c3x), (.slice A4x x.outs.length c4x), .int .i64 x.count] ∧ (∀ oo, wx.frozen? ⟨w4.heap.size, oo, none⟩ = false) ∧ Bx wx (w5.heap.size) [(.slice A1m m.regs.length c1m), .int .i64 m.pc, (.slice A2m m.mem.length c2m), .int .i64 m.save, .bool m.lets, .bool on, .int .i64 m.halt, (.slice A3m m.ins.length c3m), (.slice A4m m.outs.length c4m), .int .i64 m.count] ∧ (∀ oo, wx.frozen? ⟨w5.heap.size, oo, none⟩ = false))
        case first =>
          rcases Bool.eq_false_or_eq_true m.waits with hw | hw
          · 
            have ho2 : on = true := by rw [HON.out, hw]; rfl
            subst ho2
            have ym : w1.heap.size < w6.heap.size := by omega
            have xm0 := hBm_6 0 _ rfl
            have xm1 := hBm_6 1 _ rfl
            have xm2 := hBm_6 2 _ rfl
            have xm3 := hBm_6 3 _ rfl
            have xm4 := hBm_6 4 _ rfl
            have xm5 := hBm_6 5 _ rfl
            have xm6 := hBm_6 6 _ rfl
            have xm7 := hBm_6 7 _ rfl
            have xm8 := hBm_6 8 _ rfl
            have xm9 := hBm_6 9 _ rfl
            have fm := hFm_6
            have yy : w5.heap.size < w6.heap.size := by omega
            have xy0 := hBy_6 0 _ rfl
            have xy1 := hBy_6 1 _ rfl
            have xy2 := hBy_6 2 _ rfl
            have xy3 := hBy_6 3 _ rfl
            have xy4 := hBy_6 4 _ rfl
            have xy5 := hBy_6 5 _ rfl
            have xy6 := hBy_6 6 _ rfl
            have xy7 := hBy_6 7 _ rfl
            have xy8 := hBy_6 8 _ rfl
            have xy9 := hBy_6 9 _ rfl
            have fy := hFy_6
            go_upto_region 9 with fail
            clear xm0 xm1 xm2 xm3 xm4 xm5 xm6 xm7 xm8 xm9 ym
            clear fm
            clear xy0 xy1 xy2 xy3 xy4 xy5 xy6 xy7 xy8 xy9 yy
            clear fy
            have he7 : Ext w (w6.setCell ⟨w5.heap.size, 5, none⟩ (.bool true)) := Ext.hold he6
            have hs7 : w6.heap.size + 0 ≤ ((w6.setCell ⟨w5.heap.size, 5, none⟩ (.bool true))).heap.size := by simp
            have hb1_7 : Ext w1 (w6.setCell ⟨w5.heap.size, 5, none⟩ (.bool true)) := Ext.hold hb1_6
            have hb4_7 : Ext w4 (w6.setCell ⟨w5.heap.size, 5, none⟩ (.bool true)) := Ext.hold hb4_6
            have hBm_7 : Bx (w6.setCell ⟨w5.heap.size, 5, none⟩ (.bool true)) (w1.heap.size) [(.slice A1m m.regs.length c1m), .int .i64 m.pc, (.slice A2m m.mem.length c2m), .int .i64 m.save, .bool m.lets, .bool m.waits, .int .i64 m.halt, (.slice A3m m.ins.length c3m), (.slice A4m m.outs.length c4m), .int .i64 m.count] := Bx.hold hBm_6
            have hFm_7 : ∀ oo, (w6.setCell ⟨w5.heap.size, 5, none⟩ (.bool true)).frozen? ⟨w1.heap.size, oo, none⟩ = false := fz_hold hFm_6
            have hBx_7 : Bx (w6.setCell ⟨w5.heap.size, 5, none⟩ (.bool true)) (w4.heap.size) [(.slice A1x x.regs.length c1x), .int .i64 x.pc, (.slice A2x x.mem.length c2x), .int .i64 x.save, .bool x.lets, .bool x.waits, .int .i64 x.halt, (.slice A3x x.ins.length c3x), (.slice A4x x.outs.length c4x), .int .i64 x.count] := Bx.hold hBx_6
            have hFx_7 : ∀ oo, (w6.setCell ⟨w5.heap.size, 5, none⟩ (.bool true)).frozen? ⟨w4.heap.size, oo, none⟩ = false := fz_hold hFx_6
            have hBy_7 : Bx (w6.setCell ⟨w5.heap.size, 5, none⟩ (.bool true)) (w5.heap.size) [(.slice A1m m.regs.length c1m), .int .i64 m.pc, (.slice A2m m.mem.length c2m), .int .i64 m.save, .bool m.lets, .bool true, .int .i64 m.halt, (.slice A3m m.ins.length c3m), (.slice A4m m.outs.length c4m), .int .i64 m.count] := (by have := Bx.put hBy_6 (j := 5) (by simp) (.bool true); simpa using this : Bx (w6.setCell ⟨w5.heap.size, 5, none⟩ (.bool true)) (w5.heap.size) [(.slice A1m m.regs.length c1m), .int .i64 m.pc, (.slice A2m m.mem.length c2m), .int .i64 m.save, .bool m.lets, .bool true, .int .i64 m.halt, (.slice A3m m.ins.length c3m), (.slice A4m m.outs.length c4m), .int .i64 m.count])
            have hFy_7 : ∀ oo, (w6.setCell ⟨w5.heap.size, 5, none⟩ (.bool true)).frozen? ⟨w5.heap.size, oo, none⟩ = false := fz_hold hFy_6
            generalize (w6.setCell ⟨w5.heap.size, 5, none⟩ (.bool true)) = w7 at *
            clear hBm_6 hFm_6 hBx_6 hFx_6 hBy_6 hFy_6 hb1_6 hb4_6
            go_meet
            exact ⟨Ext.hold he7, Ext.hold hb1_7, Ext.hold hb4_7, (by first | omega | (simp; done) | (simp; omega)), Bx.hold hBm_7, fz_hold hFm_7, Bx.hold hBx_7, fz_hold hFx_7, (hBy_7), fz_hold hFy_7⟩
          · 
            have ho2 : b = on := by rw [HON.out, hw]; rfl
            subst ho2
            have ym : w1.heap.size < w6.heap.size := by omega
            have xm0 := hBm_6 0 _ rfl
            have xm1 := hBm_6 1 _ rfl
            have xm2 := hBm_6 2 _ rfl
            have xm3 := hBm_6 3 _ rfl
            have xm4 := hBm_6 4 _ rfl
            have xm5 := hBm_6 5 _ rfl
            have xm6 := hBm_6 6 _ rfl
            have xm7 := hBm_6 7 _ rfl
            have xm8 := hBm_6 8 _ rfl
            have xm9 := hBm_6 9 _ rfl
            have fm := hFm_6
            have yy : w5.heap.size < w6.heap.size := by omega
            have xy0 := hBy_6 0 _ rfl
            have xy1 := hBy_6 1 _ rfl
            have xy2 := hBy_6 2 _ rfl
            have xy3 := hBy_6 3 _ rfl
            have xy4 := hBy_6 4 _ rfl
            have xy5 := hBy_6 5 _ rfl
            have xy6 := hBy_6 6 _ rfl
            have xy7 := hBy_6 7 _ rfl
            have xy8 := hBy_6 8 _ rfl
            have xy9 := hBy_6 9 _ rfl
            have fy := hFy_6
            go_upto_region 9 with fail
            clear xm0 xm1 xm2 xm3 xm4 xm5 xm6 xm7 xm8 xm9 ym
            clear fm
            clear xy0 xy1 xy2 xy3 xy4 xy5 xy6 xy7 xy8 xy9 yy
            clear fy
            have he7 : Ext w (w6.setCell ⟨w5.heap.size, 5, none⟩ (.bool b)) := Ext.hold he6
            have hs7 : w6.heap.size + 0 ≤ ((w6.setCell ⟨w5.heap.size, 5, none⟩ (.bool b))).heap.size := by simp
            have hb1_7 : Ext w1 (w6.setCell ⟨w5.heap.size, 5, none⟩ (.bool b)) := Ext.hold hb1_6
            have hb4_7 : Ext w4 (w6.setCell ⟨w5.heap.size, 5, none⟩ (.bool b)) := Ext.hold hb4_6
            have hBm_7 : Bx (w6.setCell ⟨w5.heap.size, 5, none⟩ (.bool b)) (w1.heap.size) [(.slice A1m m.regs.length c1m), .int .i64 m.pc, (.slice A2m m.mem.length c2m), .int .i64 m.save, .bool m.lets, .bool m.waits, .int .i64 m.halt, (.slice A3m m.ins.length c3m), (.slice A4m m.outs.length c4m), .int .i64 m.count] := Bx.hold hBm_6
            have hFm_7 : ∀ oo, (w6.setCell ⟨w5.heap.size, 5, none⟩ (.bool b)).frozen? ⟨w1.heap.size, oo, none⟩ = false := fz_hold hFm_6
            have hBx_7 : Bx (w6.setCell ⟨w5.heap.size, 5, none⟩ (.bool b)) (w4.heap.size) [(.slice A1x x.regs.length c1x), .int .i64 x.pc, (.slice A2x x.mem.length c2x), .int .i64 x.save, .bool x.lets, .bool x.waits, .int .i64 x.halt, (.slice A3x x.ins.length c3x), (.slice A4x x.outs.length c4x), .int .i64 x.count] := Bx.hold hBx_6
            have hFx_7 : ∀ oo, (w6.setCell ⟨w5.heap.size, 5, none⟩ (.bool b)).frozen? ⟨w4.heap.size, oo, none⟩ = false := fz_hold hFx_6
            have hBy_7 : Bx (w6.setCell ⟨w5.heap.size, 5, none⟩ (.bool b)) (w5.heap.size) [(.slice A1m m.regs.length c1m), .int .i64 m.pc, (.slice A2m m.mem.length c2m), .int .i64 m.save, .bool m.lets, .bool b, .int .i64 m.halt, (.slice A3m m.ins.length c3m), (.slice A4m m.outs.length c4m), .int .i64 m.count] := (by have := Bx.put hBy_6 (j := 5) (by simp) (.bool b); simpa using this : Bx (w6.setCell ⟨w5.heap.size, 5, none⟩ (.bool b)) (w5.heap.size) [(.slice A1m m.regs.length c1m), .int .i64 m.pc, (.slice A2m m.mem.length c2m), .int .i64 m.save, .bool m.lets, .bool b, .int .i64 m.halt, (.slice A3m m.ins.length c3m), (.slice A4m m.outs.length c4m), .int .i64 m.count])
            have hFy_7 : ∀ oo, (w6.setCell ⟨w5.heap.size, 5, none⟩ (.bool b)).frozen? ⟨w5.heap.size, oo, none⟩ = false := fz_hold hFy_6
            generalize (w6.setCell ⟨w5.heap.size, 5, none⟩ (.bool b)) = w7 at *
            clear hBm_6 hFm_6 hBx_6 hFx_6 hBy_6 hFy_6 hb1_6 hb4_6
            go_meet
            exact ⟨Ext.hold he7, Ext.hold hb1_7, Ext.hold hb4_7, (by first | omega | (simp; done) | (simp; omega)), Bx.hold hBm_7, fz_hold hFm_7, Bx.hold hBx_7, fz_hold hFx_7, (hBy_7), fz_hold hFy_7⟩
        case rest =>
          obtain ⟨he7, hb1_7, hb4_7, hs7, hBm_7, hFm_7, hBx_7, hFx_7, hBy_7, hFy_7⟩ := hcut
          obtain ⟨w7, hwc⟩ : ∃ w7 : World, w7 = wc := ⟨_, rfl⟩
          subst hwc
          clear hBm_6 hFm_6 hBx_6 hFx_6 hBy_6 hFy_6 hb1_6 hb4_6
          obtain ⟨ys, hys⟩ : ∃ ys : MchMach, ys = mSample m b := ⟨_, rfl⟩
          rw [← hys] at HZ
          have HYS := hide hys
          clear hys
          go_upto_region 9 with fail
          go_cut [45] (fun v45_ wx => v45_ = .bool (on && m.lets) ∧ Ext w wx ∧ Ext w1 wx ∧ Ext w4 wx ∧ w7.heap.size ≤ wx.heap.size ∧ Bx wx (w1.heap.size) [(.slice A1m m.regs.length c1m), .int .i64 m.pc, (.slice A2m m.mem.length c2m), .int .i64 m.save, .bool m.lets, .bool m.waits, .int .i64 m.halt, (.slice A3m m.ins.length c3m), (.slice A4m m.outs.length c4m), .int .i64 m.count] ∧ (∀ oo, wx.frozen? ⟨w1.heap.size, oo, none⟩ = false) ∧ Bx wx (w4.heap.size) [(.slice A1x x.regs.length c1x), .int .i64 x.pc, (.slice A2x x.mem.length c2x), .int .i64 x.save, .bool x.lets, .bool x.waits, .int .i64 x.halt, (.slice A3x x.ins.length c3x), (.slice A4x x.outs.length c4x), .int .i64 x.count] ∧ (∀ oo, wx.frozen? ⟨w4.heap.size, oo, none⟩ = false) ∧ Bx wx (w5.heap.size) [(.slice A1m m.regs.length c1m), .int .i64 m.pc, (.slice A2m m.mem.length c2m), .int .i64 m.save, .bool m.lets, .bool on, .int .i64 m.halt, (.slice A3m m.ins.length c3m), (.slice A4m m.outs.length c4m), .int .i64 m.count] ∧ (∀ oo, wx.frozen? ⟨w5.heap.size, oo, none⟩ = false))
          case first =>
            cases on
            · 
              have ym : w1.heap.size < w7.heap.size := by omega
              have xm0 := hBm_7 0 _ rfl
              have xm1 := hBm_7 1 _ rfl
              have xm2 := hBm_7 2 _ rfl
              have xm3 := hBm_7 3 _ rfl
              have xm4 := hBm_7 4 _ rfl
              have xm5 := hBm_7 5 _ rfl
              have xm6 := hBm_7 6 _ rfl
              have xm7 := hBm_7 7 _ rfl
              have xm8 := hBm_7 8 _ rfl
              have xm9 := hBm_7 9 _ rfl
              have fm := hFm_7
              have yy : w5.heap.size < w7.heap.size := by omega
              have xy0 := hBy_7 0 _ rfl
              have xy1 := hBy_7 1 _ rfl
              have xy2 := hBy_7 2 _ rfl
              have xy3 := hBy_7 3 _ rfl
              have xy4 := hBy_7 4 _ rfl
              have xy5 := hBy_7 5 _ rfl
              have xy6 := hBy_7 6 _ rfl
              have xy7 := hBy_7 7 _ rfl
              have xy8 := hBy_7 8 _ rfl
              have xy9 := hBy_7 9 _ rfl
              have fy := hFy_7
              go_wp2_with fail
              clear xm0 xm1 xm2 xm3 xm4 xm5 xm6 xm7 xm8 xm9 ym
              clear fm
              clear xy0 xy1 xy2 xy3 xy4 xy5 xy6 xy7 xy8 xy9 yy
              clear fy
              go_meet
              exact ⟨rfl, Ext.hold he7, Ext.hold hb1_7, Ext.hold hb4_7, (by first | omega | (simp; done) | (simp; omega)), Bx.hold hBm_7, fz_hold hFm_7, Bx.hold hBx_7, fz_hold hFx_7, Bx.hold hBy_7, fz_hold hFy_7⟩
            · 
              have ym : w1.heap.size < w7.heap.size := by omega
              have xm0 := hBm_7 0 _ rfl
              have xm1 := hBm_7 1 _ rfl
              have xm2 := hBm_7 2 _ rfl
              have xm3 := hBm_7 3 _ rfl
              have xm4 := hBm_7 4 _ rfl
              have xm5 := hBm_7 5 _ rfl
              have xm6 := hBm_7 6 _ rfl
              have xm7 := hBm_7 7 _ rfl
              have xm8 := hBm_7 8 _ rfl
              have xm9 := hBm_7 9 _ rfl
              have fm := hFm_7
              have yy : w5.heap.size < w7.heap.size := by omega
              have xy0 := hBy_7 0 _ rfl
              have xy1 := hBy_7 1 _ rfl
              have xy2 := hBy_7 2 _ rfl
              have xy3 := hBy_7 3 _ rfl
              have xy4 := hBy_7 4 _ rfl
              have xy5 := hBy_7 5 _ rfl
              have xy6 := hBy_7 6 _ rfl
              have xy7 := hBy_7 7 _ rfl
              have xy8 := hBy_7 8 _ rfl
              have xy9 := hBy_7 9 _ rfl
              have fy := hFy_7
              go_wp2_with fail
              clear xm0 xm1 xm2 xm3 xm4 xm5 xm6 xm7 xm8 xm9 ym
              clear fm
              clear xy0 xy1 xy2 xy3 xy4 xy5 xy6 xy7 xy8 xy9 yy
              clear fy
              go_meet
              exact ⟨rfl, Ext.hold he7, Ext.hold hb1_7, Ext.hold hb4_7, (by first | omega | (simp; done) | (simp; omega)), Bx.hold hBm_7, fz_hold hFm_7, Bx.hold hBx_7, fz_hold hFx_7, Bx.hold hBy_7, fz_hold hFy_7⟩
          case rest =>
            obtain ⟨rfl, he8, hb1_8, hb4_8, hs8, hBm_8, hFm_8, hBx_8, hFx_8, hBy_8, hFy_8⟩ := hcut
            obtain ⟨w8, hwc⟩ : ∃ w8 : World, w8 = wc := ⟨_, rfl⟩
            subst hwc
            clear hBm_7 hFm_7 hBx_7 hFx_7 hBy_7 hFy_7 hb1_7 hb4_7
            go_upto_if 45 with fail
            go_cut [] (fun wx => Ext w wx ∧ Ext w1 wx ∧ Ext w4 wx ∧ w8.heap.size ≤ wx.heap.size ∧ Bx wx (w1.heap.size) [(.slice A1m m.regs.length c1m), .int .i64 m.pc, (.slice A2m m.mem.length c2m), .int .i64 m.save, .bool m.lets, .bool m.waits, .int .i64 m.halt, (.slice A3m m.ins.length c3m), (.slice A4m m.outs.length c4m), .int .i64 m.count] ∧ (∀ oo, wx.frozen? ⟨w1.heap.size, oo, none⟩ = false) ∧ Bx wx (w4.heap.size) [(.slice A1x x.regs.length c1x), .int .i64 x.pc, (.slice A2x x.mem.length c2x), .int .i64 x.save, .bool x.lets, .bool x.waits, .int .i64 x.halt, (.slice A3x x.ins.length c3x), (.slice A4x x.outs.length c4x), .int .i64 x.count] ∧ (∀ oo, wx.frozen? ⟨w4.heap.size, oo, none⟩ = false) ∧ Bx wx (w5.heap.size) [(.slice A1m m.regs.length c1m), .int .i64 ys.pc, (.slice A2m m.mem.length c2m), .int .i64 ys.save, .bool ys.lets, .bool ys.waits, .int .i64 ys.halt, (.slice A3m m.ins.length c3m), (.slice A4m m.outs.length c4m), .int .i64 ys.count] ∧ (∀ oo, wx.frozen? ⟨w5.heap.size, oo, none⟩ = false))
            case first =>
              cases on
              · 
                have hy2 : ys = ({ m with waits := false } : MchMach) := by rw [HYS.out]; unfold mSample; rw [← HON.out]; rfl
                clear HYS HZ
                subst hy2
                have qa : (false && m.lets) = false := by rfl
                simp only [qa]
                clear qa
                have ym : w1.heap.size < w8.heap.size := by omega
                have xm0 := hBm_8 0 _ rfl
                have xm1 := hBm_8 1 _ rfl
                have xm2 := hBm_8 2 _ rfl
                have xm3 := hBm_8 3 _ rfl
                have xm4 := hBm_8 4 _ rfl
                have xm5 := hBm_8 5 _ rfl
                have xm6 := hBm_8 6 _ rfl
                have xm7 := hBm_8 7 _ rfl
                have xm8 := hBm_8 8 _ rfl
                have xm9 := hBm_8 9 _ rfl
                have fm := hFm_8
                have yy : w5.heap.size < w8.heap.size := by omega
                have xy0 := hBy_8 0 _ rfl
                have xy1 := hBy_8 1 _ rfl
                have xy2 := hBy_8 2 _ rfl
                have xy3 := hBy_8 3 _ rfl
                have xy4 := hBy_8 4 _ rfl
                have xy5 := hBy_8 5 _ rfl
                have xy6 := hBy_8 6 _ rfl
                have xy7 := hBy_8 7 _ rfl
                have xy8 := hBy_8 8 _ rfl
                have xy9 := hBy_8 9 _ rfl
                have fy := hFy_8
                go_wp2_with fail
                clear xm0 xm1 xm2 xm3 xm4 xm5 xm6 xm7 xm8 xm9 ym
                clear fm
                clear xy0 xy1 xy2 xy3 xy4 xy5 xy6 xy7 xy8 xy9 yy
                clear fy
                go_meet
                exact ⟨Ext.hold he8, Ext.hold hb1_8, Ext.hold hb4_8, (by first | omega | (simp; done) | (simp; omega)), Bx.hold hBm_8, fz_hold hFm_8, Bx.hold hBx_8, fz_hold hFx_8, (by have := hBy_8; exact this), fz_hold hFy_8⟩
              rcases Bool.eq_false_or_eq_true m.lets with hl | hl
              · 
                have hy2 : ys = ({ m with waits := false, lets := false, save := m.pc, pc := 48 } : MchMach) := by rw [HYS.out]; unfold mSample; rw [← HON.out, hl]; rfl
                clear HYS HZ
                subst hy2
                have qa : (true && m.lets) = true := by rw [hl]; rfl
                simp only [qa]
                clear qa
                have ym : w1.heap.size < w8.heap.size := by omega
                have xm0 := hBm_8 0 _ rfl
                have xm1 := hBm_8 1 _ rfl
                have xm2 := hBm_8 2 _ rfl
                have xm3 := hBm_8 3 _ rfl
                have xm4 := hBm_8 4 _ rfl
                have xm5 := hBm_8 5 _ rfl
                have xm6 := hBm_8 6 _ rfl
                have xm7 := hBm_8 7 _ rfl
                have xm8 := hBm_8 8 _ rfl
                have xm9 := hBm_8 9 _ rfl
                have fm := hFm_8
                have yy : w5.heap.size < w8.heap.size := by omega
                have xy0 := hBy_8 0 _ rfl
                have xy1 := hBy_8 1 _ rfl
                have xy2 := hBy_8 2 _ rfl
                have xy3 := hBy_8 3 _ rfl
                have xy4 := hBy_8 4 _ rfl
                have xy5 := hBy_8 5 _ rfl
                have xy6 := hBy_8 6 _ rfl
                have xy7 := hBy_8 7 _ rfl
                have xy8 := hBy_8 8 _ rfl
                have xy9 := hBy_8 9 _ rfl
                have fy := hFy_8
                go_upto_region 11 with fail
                clear xm0 xm1 xm2 xm3 xm4 xm5 xm6 xm7 xm8 xm9 ym
                clear fm
                clear xy0 xy1 xy2 xy3 xy4 xy5 xy6 xy7 xy8 xy9 yy
                clear fy
                have he9 : Ext w (w8.setCell ⟨w5.heap.size, 5, none⟩ (.bool false)) := Ext.hold he8
                have hs9 : w8.heap.size + 0 ≤ ((w8.setCell ⟨w5.heap.size, 5, none⟩ (.bool false))).heap.size := by simp
                have hb1_9 : Ext w1 (w8.setCell ⟨w5.heap.size, 5, none⟩ (.bool false)) := Ext.hold hb1_8
                have hb4_9 : Ext w4 (w8.setCell ⟨w5.heap.size, 5, none⟩ (.bool false)) := Ext.hold hb4_8
                have hBm_9 : Bx (w8.setCell ⟨w5.heap.size, 5, none⟩ (.bool false)) (w1.heap.size) [(.slice A1m m.regs.length c1m), .int .i64 m.pc, (.slice A2m m.mem.length c2m), .int .i64 m.save, .bool m.lets, .bool m.waits, .int .i64 m.halt, (.slice A3m m.ins.length c3m), (.slice A4m m.outs.length c4m), .int .i64 m.count] := Bx.hold hBm_8
                have hFm_9 : ∀ oo, (w8.setCell ⟨w5.heap.size, 5, none⟩ (.bool false)).frozen? ⟨w1.heap.size, oo, none⟩ = false := fz_hold hFm_8
                have hBx_9 : Bx (w8.setCell ⟨w5.heap.size, 5, none⟩ (.bool false)) (w4.heap.size) [(.slice A1x x.regs.length c1x), .int .i64 x.pc, (.slice A2x x.mem.length c2x), .int .i64 x.save, .bool x.lets, .bool x.waits, .int .i64 x.halt, (.slice A3x x.ins.length c3x), (.slice A4x x.outs.length c4x), .int .i64 x.count] := Bx.hold hBx_8
                have hFx_9 : ∀ oo, (w8.setCell ⟨w5.heap.size, 5, none⟩ (.bool false)).frozen? ⟨w4.heap.size, oo, none⟩ = false := fz_hold hFx_8
                have hBy_9 : Bx (w8.setCell ⟨w5.heap.size, 5, none⟩ (.bool false)) (w5.heap.size) [(.slice A1m m.regs.length c1m), .int .i64 m.pc, (.slice A2m m.mem.length c2m), .int .i64 m.save, .bool m.lets, .bool false, .int .i64 m.halt, (.slice A3m m.ins.length c3m), (.slice A4m m.outs.length c4m), .int .i64 m.count] := (by have := Bx.put hBy_8 (j := 5) (by simp) (.bool false); simpa using this : Bx (w8.setCell ⟨w5.heap.size, 5, none⟩ (.bool false)) (w5.heap.size) [(.slice A1m m.regs.length c1m), .int .i64 m.pc, (.slice A2m m.mem.length c2m), .int .i64 m.save, .bool m.lets, .bool false, .int .i64 m.halt, (.slice A3m m.ins.length c3m), (.slice A4m m.outs.length c4m), .int .i64 m.count])
                have hFy_9 : ∀ oo, (w8.setCell ⟨w5.heap.size, 5, none⟩ (.bool false)).frozen? ⟨w5.heap.size, oo, none⟩ = false := fz_hold hFy_8
                generalize (w8.setCell ⟨w5.heap.size, 5, none⟩ (.bool false)) = w9 at *
                clear hBm_8 hFm_8 hBx_8 hFx_8 hBy_8 hFy_8 hb1_8 hb4_8
                have ym : w1.heap.size < w9.heap.size := by omega
                have xm0 := hBm_9 0 _ rfl
                have xm1 := hBm_9 1 _ rfl
                have xm2 := hBm_9 2 _ rfl
                have xm3 := hBm_9 3 _ rfl
                have xm4 := hBm_9 4 _ rfl
                have xm5 := hBm_9 5 _ rfl
                have xm6 := hBm_9 6 _ rfl
                have xm7 := hBm_9 7 _ rfl
                have xm8 := hBm_9 8 _ rfl
                have xm9 := hBm_9 9 _ rfl
                have fm := hFm_9
                have yy : w5.heap.size < w9.heap.size := by omega
                have xy0 := hBy_9 0 _ rfl
                have xy1 := hBy_9 1 _ rfl
                have xy2 := hBy_9 2 _ rfl
                have xy3 := hBy_9 3 _ rfl
                have xy4 := hBy_9 4 _ rfl
                have xy5 := hBy_9 5 _ rfl
                have xy6 := hBy_9 6 _ rfl
                have xy7 := hBy_9 7 _ rfl
                have xy8 := hBy_9 8 _ rfl
                have xy9 := hBy_9 9 _ rfl
                have fy := hFy_9
                go_upto_region 12 with fail
                clear xm0 xm1 xm2 xm3 xm4 xm5 xm6 xm7 xm8 xm9 ym
                clear fm
                clear xy0 xy1 xy2 xy3 xy4 xy5 xy6 xy7 xy8 xy9 yy
                clear fy
                have he10 : Ext w (w9.setCell ⟨w5.heap.size, 4, none⟩ (.bool false)) := Ext.hold he9
                have hs10 : w9.heap.size + 0 ≤ ((w9.setCell ⟨w5.heap.size, 4, none⟩ (.bool false))).heap.size := by simp
                have hb1_10 : Ext w1 (w9.setCell ⟨w5.heap.size, 4, none⟩ (.bool false)) := Ext.hold hb1_9
                have hb4_10 : Ext w4 (w9.setCell ⟨w5.heap.size, 4, none⟩ (.bool false)) := Ext.hold hb4_9
                have hBm_10 : Bx (w9.setCell ⟨w5.heap.size, 4, none⟩ (.bool false)) (w1.heap.size) [(.slice A1m m.regs.length c1m), .int .i64 m.pc, (.slice A2m m.mem.length c2m), .int .i64 m.save, .bool m.lets, .bool m.waits, .int .i64 m.halt, (.slice A3m m.ins.length c3m), (.slice A4m m.outs.length c4m), .int .i64 m.count] := Bx.hold hBm_9
                have hFm_10 : ∀ oo, (w9.setCell ⟨w5.heap.size, 4, none⟩ (.bool false)).frozen? ⟨w1.heap.size, oo, none⟩ = false := fz_hold hFm_9
                have hBx_10 : Bx (w9.setCell ⟨w5.heap.size, 4, none⟩ (.bool false)) (w4.heap.size) [(.slice A1x x.regs.length c1x), .int .i64 x.pc, (.slice A2x x.mem.length c2x), .int .i64 x.save, .bool x.lets, .bool x.waits, .int .i64 x.halt, (.slice A3x x.ins.length c3x), (.slice A4x x.outs.length c4x), .int .i64 x.count] := Bx.hold hBx_9
                have hFx_10 : ∀ oo, (w9.setCell ⟨w5.heap.size, 4, none⟩ (.bool false)).frozen? ⟨w4.heap.size, oo, none⟩ = false := fz_hold hFx_9
                have hBy_10 : Bx (w9.setCell ⟨w5.heap.size, 4, none⟩ (.bool false)) (w5.heap.size) [(.slice A1m m.regs.length c1m), .int .i64 m.pc, (.slice A2m m.mem.length c2m), .int .i64 m.save, .bool false, .bool false, .int .i64 m.halt, (.slice A3m m.ins.length c3m), (.slice A4m m.outs.length c4m), .int .i64 m.count] := (by have := Bx.put hBy_9 (j := 4) (by simp) (.bool false); simpa using this : Bx (w9.setCell ⟨w5.heap.size, 4, none⟩ (.bool false)) (w5.heap.size) [(.slice A1m m.regs.length c1m), .int .i64 m.pc, (.slice A2m m.mem.length c2m), .int .i64 m.save, .bool false, .bool false, .int .i64 m.halt, (.slice A3m m.ins.length c3m), (.slice A4m m.outs.length c4m), .int .i64 m.count])
                have hFy_10 : ∀ oo, (w9.setCell ⟨w5.heap.size, 4, none⟩ (.bool false)).frozen? ⟨w5.heap.size, oo, none⟩ = false := fz_hold hFy_9
                generalize (w9.setCell ⟨w5.heap.size, 4, none⟩ (.bool false)) = w10 at *
                clear hBm_9 hFm_9 hBx_9 hFx_9 hBy_9 hFy_9 hb1_9 hb4_9
                have ym : w1.heap.size < w10.heap.size := by omega
                have xm0 := hBm_10 0 _ rfl
                have xm1 := hBm_10 1 _ rfl
                have xm2 := hBm_10 2 _ rfl
                have xm3 := hBm_10 3 _ rfl
                have xm4 := hBm_10 4 _ rfl
                have xm5 := hBm_10 5 _ rfl
                have xm6 := hBm_10 6 _ rfl
                have xm7 := hBm_10 7 _ rfl
                have xm8 := hBm_10 8 _ rfl
                have xm9 := hBm_10 9 _ rfl
                have fm := hFm_10
                have yy : w5.heap.size < w10.heap.size := by omega
                have xy0 := hBy_10 0 _ rfl
                have xy1 := hBy_10 1 _ rfl
                have xy2 := hBy_10 2 _ rfl
                have xy3 := hBy_10 3 _ rfl
                have xy4 := hBy_10 4 _ rfl
                have xy5 := hBy_10 5 _ rfl
                have xy6 := hBy_10 6 _ rfl
                have xy7 := hBy_10 7 _ rfl
                have xy8 := hBy_10 8 _ rfl
                have xy9 := hBy_10 9 _ rfl
                have fy := hFy_10
                go_upto_region 13 with fail
                clear xm0 xm1 xm2 xm3 xm4 xm5 xm6 xm7 xm8 xm9 ym
                clear fm
                clear xy0 xy1 xy2 xy3 xy4 xy5 xy6 xy7 xy8 xy9 yy
                clear fy
                have he11 : Ext w (w10.setCell ⟨w5.heap.size, 3, none⟩ (.int .i64 m.pc)) := Ext.hold he10
                have hs11 : w10.heap.size + 0 ≤ ((w10.setCell ⟨w5.heap.size, 3, none⟩ (.int .i64 m.pc))).heap.size := by simp
                have hb1_11 : Ext w1 (w10.setCell ⟨w5.heap.size, 3, none⟩ (.int .i64 m.pc)) := Ext.hold hb1_10
                have hb4_11 : Ext w4 (w10.setCell ⟨w5.heap.size, 3, none⟩ (.int .i64 m.pc)) := Ext.hold hb4_10
                have hBm_11 : Bx (w10.setCell ⟨w5.heap.size, 3, none⟩ (.int .i64 m.pc)) (w1.heap.size) [(.slice A1m m.regs.length c1m), .int .i64 m.pc, (.slice A2m m.mem.length c2m), .int .i64 m.save, .bool m.lets, .bool m.waits, .int .i64 m.halt, (.slice A3m m.ins.length c3m), (.slice A4m m.outs.length c4m), .int .i64 m.count] := Bx.hold hBm_10
                have hFm_11 : ∀ oo, (w10.setCell ⟨w5.heap.size, 3, none⟩ (.int .i64 m.pc)).frozen? ⟨w1.heap.size, oo, none⟩ = false := fz_hold hFm_10
                have hBx_11 : Bx (w10.setCell ⟨w5.heap.size, 3, none⟩ (.int .i64 m.pc)) (w4.heap.size) [(.slice A1x x.regs.length c1x), .int .i64 x.pc, (.slice A2x x.mem.length c2x), .int .i64 x.save, .bool x.lets, .bool x.waits, .int .i64 x.halt, (.slice A3x x.ins.length c3x), (.slice A4x x.outs.length c4x), .int .i64 x.count] := Bx.hold hBx_10
                have hFx_11 : ∀ oo, (w10.setCell ⟨w5.heap.size, 3, none⟩ (.int .i64 m.pc)).frozen? ⟨w4.heap.size, oo, none⟩ = false := fz_hold hFx_10
                have hBy_11 : Bx (w10.setCell ⟨w5.heap.size, 3, none⟩ (.int .i64 m.pc)) (w5.heap.size) [(.slice A1m m.regs.length c1m), .int .i64 m.pc, (.slice A2m m.mem.length c2m), .int .i64 m.pc, .bool false, .bool false, .int .i64 m.halt, (.slice A3m m.ins.length c3m), (.slice A4m m.outs.length c4m), .int .i64 m.count] := (by have := Bx.put hBy_10 (j := 3) (by simp) (.int .i64 m.pc); simpa using this : Bx (w10.setCell ⟨w5.heap.size, 3, none⟩ (.int .i64 m.pc)) (w5.heap.size) [(.slice A1m m.regs.length c1m), .int .i64 m.pc, (.slice A2m m.mem.length c2m), .int .i64 m.pc, .bool false, .bool false, .int .i64 m.halt, (.slice A3m m.ins.length c3m), (.slice A4m m.outs.length c4m), .int .i64 m.count])
                have hFy_11 : ∀ oo, (w10.setCell ⟨w5.heap.size, 3, none⟩ (.int .i64 m.pc)).frozen? ⟨w5.heap.size, oo, none⟩ = false := fz_hold hFy_10
                generalize (w10.setCell ⟨w5.heap.size, 3, none⟩ (.int .i64 m.pc)) = w11 at *
                clear hBm_10 hFm_10 hBx_10 hFx_10 hBy_10 hFy_10 hb1_10 hb4_10
                have ym : w1.heap.size < w11.heap.size := by omega
                have xm0 := hBm_11 0 _ rfl
                have xm1 := hBm_11 1 _ rfl
                have xm2 := hBm_11 2 _ rfl
                have xm3 := hBm_11 3 _ rfl
                have xm4 := hBm_11 4 _ rfl
                have xm5 := hBm_11 5 _ rfl
                have xm6 := hBm_11 6 _ rfl
                have xm7 := hBm_11 7 _ rfl
                have xm8 := hBm_11 8 _ rfl
                have xm9 := hBm_11 9 _ rfl
                have fm := hFm_11
                have yy : w5.heap.size < w11.heap.size := by omega
                have xy0 := hBy_11 0 _ rfl
                have xy1 := hBy_11 1 _ rfl
                have xy2 := hBy_11 2 _ rfl
                have xy3 := hBy_11 3 _ rfl
                have xy4 := hBy_11 4 _ rfl
                have xy5 := hBy_11 5 _ rfl
                have xy6 := hBy_11 6 _ rfl
                have xy7 := hBy_11 7 _ rfl
                have xy8 := hBy_11 8 _ rfl
                have xy9 := hBy_11 9 _ rfl
                have fy := hFy_11
                go_wp2_with fail
                clear xm0 xm1 xm2 xm3 xm4 xm5 xm6 xm7 xm8 xm9 ym
                clear fm
                clear xy0 xy1 xy2 xy3 xy4 xy5 xy6 xy7 xy8 xy9 yy
                clear fy
                have he12 : Ext w (w11.setCell ⟨w5.heap.size, 1, none⟩ (.int .i64 48)) := Ext.hold he11
                have hs12 : w11.heap.size + 0 ≤ ((w11.setCell ⟨w5.heap.size, 1, none⟩ (.int .i64 48))).heap.size := by simp
                have hb1_12 : Ext w1 (w11.setCell ⟨w5.heap.size, 1, none⟩ (.int .i64 48)) := Ext.hold hb1_11
                have hb4_12 : Ext w4 (w11.setCell ⟨w5.heap.size, 1, none⟩ (.int .i64 48)) := Ext.hold hb4_11
                have hBm_12 : Bx (w11.setCell ⟨w5.heap.size, 1, none⟩ (.int .i64 48)) (w1.heap.size) [(.slice A1m m.regs.length c1m), .int .i64 m.pc, (.slice A2m m.mem.length c2m), .int .i64 m.save, .bool m.lets, .bool m.waits, .int .i64 m.halt, (.slice A3m m.ins.length c3m), (.slice A4m m.outs.length c4m), .int .i64 m.count] := Bx.hold hBm_11
                have hFm_12 : ∀ oo, (w11.setCell ⟨w5.heap.size, 1, none⟩ (.int .i64 48)).frozen? ⟨w1.heap.size, oo, none⟩ = false := fz_hold hFm_11
                have hBx_12 : Bx (w11.setCell ⟨w5.heap.size, 1, none⟩ (.int .i64 48)) (w4.heap.size) [(.slice A1x x.regs.length c1x), .int .i64 x.pc, (.slice A2x x.mem.length c2x), .int .i64 x.save, .bool x.lets, .bool x.waits, .int .i64 x.halt, (.slice A3x x.ins.length c3x), (.slice A4x x.outs.length c4x), .int .i64 x.count] := Bx.hold hBx_11
                have hFx_12 : ∀ oo, (w11.setCell ⟨w5.heap.size, 1, none⟩ (.int .i64 48)).frozen? ⟨w4.heap.size, oo, none⟩ = false := fz_hold hFx_11
                have hBy_12 : Bx (w11.setCell ⟨w5.heap.size, 1, none⟩ (.int .i64 48)) (w5.heap.size) [(.slice A1m m.regs.length c1m), .int .i64 48, (.slice A2m m.mem.length c2m), .int .i64 m.pc, .bool false, .bool false, .int .i64 m.halt, (.slice A3m m.ins.length c3m), (.slice A4m m.outs.length c4m), .int .i64 m.count] := (by have := Bx.put hBy_11 (j := 1) (by simp) (.int .i64 48); simpa using this : Bx (w11.setCell ⟨w5.heap.size, 1, none⟩ (.int .i64 48)) (w5.heap.size) [(.slice A1m m.regs.length c1m), .int .i64 48, (.slice A2m m.mem.length c2m), .int .i64 m.pc, .bool false, .bool false, .int .i64 m.halt, (.slice A3m m.ins.length c3m), (.slice A4m m.outs.length c4m), .int .i64 m.count])
                have hFy_12 : ∀ oo, (w11.setCell ⟨w5.heap.size, 1, none⟩ (.int .i64 48)).frozen? ⟨w5.heap.size, oo, none⟩ = false := fz_hold hFy_11
                generalize (w11.setCell ⟨w5.heap.size, 1, none⟩ (.int .i64 48)) = w12 at *
                clear hBm_11 hFm_11 hBx_11 hFx_11 hBy_11 hFy_11 hb1_11 hb4_11
                go_meet
                exact ⟨Ext.hold he12, Ext.hold hb1_12, Ext.hold hb4_12, (by first | omega | (simp; done) | (simp; omega)), Bx.hold hBm_12, fz_hold hFm_12, Bx.hold hBx_12, fz_hold hFx_12, (by have := hBy_12; exact this), fz_hold hFy_12⟩
              · 
                have hy2 : ys = ({ m with waits := true } : MchMach) := by rw [HYS.out]; unfold mSample; rw [← HON.out, hl]; rfl
                clear HYS HZ
                subst hy2
                have qa : (true && m.lets) = false := by rw [hl]; rfl
                simp only [qa]
                clear qa
                have ym : w1.heap.size < w8.heap.size := by omega
                have xm0 := hBm_8 0 _ rfl
                have xm1 := hBm_8 1 _ rfl
                have xm2 := hBm_8 2 _ rfl
                have xm3 := hBm_8 3 _ rfl
                have xm4 := hBm_8 4 _ rfl
                have xm5 := hBm_8 5 _ rfl
                have xm6 := hBm_8 6 _ rfl
                have xm7 := hBm_8 7 _ rfl
                have xm8 := hBm_8 8 _ rfl
                have xm9 := hBm_8 9 _ rfl
                have fm := hFm_8
                have yy : w5.heap.size < w8.heap.size := by omega
                have xy0 := hBy_8 0 _ rfl
                have xy1 := hBy_8 1 _ rfl
                have xy2 := hBy_8 2 _ rfl
                have xy3 := hBy_8 3 _ rfl
                have xy4 := hBy_8 4 _ rfl
                have xy5 := hBy_8 5 _ rfl
                have xy6 := hBy_8 6 _ rfl
                have xy7 := hBy_8 7 _ rfl
                have xy8 := hBy_8 8 _ rfl
                have xy9 := hBy_8 9 _ rfl
                have fy := hFy_8
                go_wp2_with fail
                clear xm0 xm1 xm2 xm3 xm4 xm5 xm6 xm7 xm8 xm9 ym
                clear fm
                clear xy0 xy1 xy2 xy3 xy4 xy5 xy6 xy7 xy8 xy9 yy
                clear fy
                go_meet
                exact ⟨Ext.hold he8, Ext.hold hb1_8, Ext.hold hb4_8, (by first | omega | (simp; done) | (simp; omega)), Bx.hold hBm_8, fz_hold hFm_8, Bx.hold hBx_8, fz_hold hFx_8, (by have := hBy_8; exact this), fz_hold hFy_8⟩
            case rest =>
              obtain ⟨he9, hb1_9, hb4_9, hs9, hBm_9, hFm_9, hBx_9, hFx_9, hBy_9, hFy_9⟩ := hcut
              obtain ⟨w9, hwc⟩ : ∃ w9 : World, w9 = wc := ⟨_, rfl⟩
              subst hwc
              clear hBm_8 hFm_8 hBx_8 hFx_8 hBy_8 hFy_8 hb1_8 hb4_8
              have hyo : ys.waits = false ∨ ys.lets = false := by
                rw [HYS.out]
                cases hw : m.waits <;> cases hl : m.lets <;> cases b <;> simp [mSample, hw, hl]
              have hy1 : ys.regs = m.regs ∧ ys.mem = m.mem ∧ ys.ins = m.ins ∧ ys.outs = m.outs := by rw [HYS.out]; exact ⟨(mSample_same m b).1, (mSample_same m b).2.1, (mSample_same m b).2.2.1, (mSample_same m b).2.2.2.1⟩
              have HY1 := hide hy1
              clear hy1
              rcases Bool.eq_false_or_eq_true ys.waits with hwy | hwy
              · 
                have hlf : ys.lets = false := hyo.resolve_left (by rw [hwy]; simp)
                clear hyo
                have ym : w1.heap.size < w9.heap.size := by omega
                have xm0 := hBm_9 0 _ rfl
                have xm1 := hBm_9 1 _ rfl
                have xm2 := hBm_9 2 _ rfl
                have xm3 := hBm_9 3 _ rfl
                have xm4 := hBm_9 4 _ rfl
                have xm5 := hBm_9 5 _ rfl
                have xm6 := hBm_9 6 _ rfl
                have xm7 := hBm_9 7 _ rfl
                have xm8 := hBm_9 8 _ rfl
                have xm9 := hBm_9 9 _ rfl
                have fm := hFm_9
                have yy : w5.heap.size < w9.heap.size := by omega
                have xy0 := hBy_9 0 _ rfl
                have xy1 := hBy_9 1 _ rfl
                have xy2 := hBy_9 2 _ rfl
                have xy3 := hBy_9 3 _ rfl
                have xy4 := hBy_9 4 _ rfl
                have xy5 := hBy_9 5 _ rfl
                have xy6 := hBy_9 6 _ rfl
                have xy7 := hBy_9 7 _ rfl
                have xy8 := hBy_9 8 _ rfl
                have xy9 := hBy_9 9 _ rfl
                have fy := hFy_9
                have yx : w4.heap.size < w9.heap.size := by omega
                have xx0 := hBx_9 0 _ rfl
                have xx1 := hBx_9 1 _ rfl
                have xx2 := hBx_9 2 _ rfl
                have xx3 := hBx_9 3 _ rfl
                have xx4 := hBx_9 4 _ rfl
                have xx5 := hBx_9 5 _ rfl
                have xx6 := hBx_9 6 _ rfl
                have xx7 := hBx_9 7 _ rfl
                have xx8 := hBx_9 8 _ rfl
                have xx9 := hBx_9 9 _ rfl
                have fx := hFx_9
                go_upto_region 15 with fail
                clear xm0 xm1 xm2 xm3 xm4 xm5 xm6 xm7 xm8 xm9 ym
                clear fm
                clear xy0 xy1 xy2 xy3 xy4 xy5 xy6 xy7 xy8 xy9 yy
                clear fy
                clear xx0 xx1 xx2 xx3 xx4 xx5 xx6 xx7 xx8 xx9 yx
                clear fx
                clear hwy hlf
                have h1y := HY1.out
                have ym : w1.heap.size < w9.heap.size := by omega
                have xm0 := hBm_9 0 _ rfl
                have xm1 := hBm_9 1 _ rfl
                have xm2 := hBm_9 2 _ rfl
                have xm3 := hBm_9 3 _ rfl
                have xm4 := hBm_9 4 _ rfl
                have xm5 := hBm_9 5 _ rfl
                have xm6 := hBm_9 6 _ rfl
                have xm7 := hBm_9 7 _ rfl
                have xm8 := hBm_9 8 _ rfl
                have xm9 := hBm_9 9 _ rfl
                have fm := hFm_9
                have yy : w5.heap.size < w9.heap.size := by omega
                have xy0 := hBy_9 0 _ rfl
                have xy1 := hBy_9 1 _ rfl
                have xy2 := hBy_9 2 _ rfl
                have xy3 := hBy_9 3 _ rfl
                have xy4 := hBy_9 4 _ rfl
                have xy5 := hBy_9 5 _ rfl
                have xy6 := hBy_9 6 _ rfl
                have xy7 := hBy_9 7 _ rfl
                have xy8 := hBy_9 8 _ rfl
                have xy9 := hBy_9 9 _ rfl
                have fy := hFy_9
                have yx : w4.heap.size < w9.heap.size := by omega
                have xx0 := hBx_9 0 _ rfl
                have xx1 := hBx_9 1 _ rfl
                have xx2 := hBx_9 2 _ rfl
                have xx3 := hBx_9 3 _ rfl
                have xx4 := hBx_9 4 _ rfl
                have xx5 := hBx_9 5 _ rfl
                have xx6 := hBx_9 6 _ rfl
                have xx7 := hBx_9 7 _ rfl
                have xx8 := hBx_9 8 _ rfl
                have xx9 := hBx_9 9 _ rfl
                have fx := hFx_9
                go_wp2_with fail
                have hcy := implStep_r ys false _ _ _ _ (w9) (by rw [h1y.1]; exact (tm1.ext (Ext.hold hb1_9))) (by rw [h1y.2.1]; exact (tm2.ext (Ext.hold hb1_9))) (by rw [h1y.2.2.1]; exact (tm3.ext (Ext.hold hb1_9))) (by rw [h1y.2.2.2]; exact (tm4.ext (Ext.hold hb1_9))) (by rw [h1y.1]; omega) (by rw [h1y.2.1]; omega) (by rw [h1y.2.2.1]; omega) (by rw [h1y.2.2.2]; omega) (by rw [h1y.2.2.2]; omega) lf (hF.ext (Ext.hold he9))
                clear h1y
                refine hcy.mono ?_
                clear hcy
                intro e w10 hr
                rw [← HZ.out] at hr
                unfold MRet at hr
                obtain ⟨A1z, A2z, A3z, A4z, c1z, c2z, c3z, c4z, rfl, tz1, tz2, tz3, tz4, hy⟩ := hr
                clear xm0 xm1 xm2 xm3 xm4 xm5 xm6 xm7 xm8 xm9 ym
                clear fm
                clear xy0 xy1 xy2 xy3 xy4 xy5 xy6 xy7 xy8 xy9 yy
                clear fy
                clear xx0 xx1 xx2 xx3 xx4 xx5 xx6 xx7 xx8 xx9 yx
                clear fx
                have hb1_10 : Ext w1 w10 := Ext.trans (Ext.hold hb1_9) hy
                have hb4_10 : Ext w4 w10 := Ext.trans (Ext.hold hb4_9) hy
                have hs10 := hy.size
                try simp at hs10
                have he10 : Ext w w10 := Ext.trans (Ext.hold he9) hy
                have hBm_10 : Bx w10 (w1.heap.size) [(.slice A1m m.regs.length c1m), .int .i64 m.pc, (.slice A2m m.mem.length c2m), .int .i64 m.save, .bool m.lets, .bool m.waits, .int .i64 m.halt, (.slice A3m m.ins.length c3m), (.slice A4m m.outs.length c4m), .int .i64 m.count] := hy.bx (Bx.hold hBm_9) (by first | omega | (simp; done) | (simp; omega))
                have hFm_10 : ∀ oo, w10.frozen? ⟨w1.heap.size, oo, none⟩ = false := fun oo => (hy.frozen (by first | omega | (simp; done) | (simp; omega))).trans ((fz_hold hFm_9) oo)
                have hBx_10 : Bx w10 (w4.heap.size) [(.slice A1x x.regs.length c1x), .int .i64 x.pc, (.slice A2x x.mem.length c2x), .int .i64 x.save, .bool x.lets, .bool x.waits, .int .i64 x.halt, (.slice A3x x.ins.length c3x), (.slice A4x x.outs.length c4x), .int .i64 x.count] := hy.bx (Bx.hold hBx_9) (by first | omega | (simp; done) | (simp; omega))
                have hFx_10 : ∀ oo, w10.frozen? ⟨w4.heap.size, oo, none⟩ = false := fun oo => (hy.frozen (by first | omega | (simp; done) | (simp; omega))).trans ((fz_hold hFx_9) oo)
                have hBy_10 : Bx w10 (w5.heap.size) [(.slice A1m m.regs.length c1m), .int .i64 ys.pc, (.slice A2m m.mem.length c2m), .int .i64 ys.save, .bool ys.lets, .bool ys.waits, .int .i64 ys.halt, (.slice A3m m.ins.length c3m), (.slice A4m m.outs.length c4m), .int .i64 ys.count] := hy.bx (Bx.hold hBy_9) (by first | omega | (simp; done) | (simp; omega))
                have hFy_10 : ∀ oo, w10.frozen? ⟨w5.heap.size, oo, none⟩ = false := fun oo => (hy.frozen (by first | omega | (simp; done) | (simp; omega))).trans ((fz_hold hFy_9) oo)
                try clear hBm_9 hFm_9 hBx_9 hFx_9 hBy_9 hFy_9
                clear hy hb1_9 hb4_9
                have hb10_10 : Ext w10 w10 := Ext.refl _
                have yx : w4.heap.size < w10.heap.size := by omega
                have xx0 := hBx_10 0 _ rfl
                have xx1 := hBx_10 1 _ rfl
                have xx2 := hBx_10 2 _ rfl
                have xx3 := hBx_10 3 _ rfl
                have xx4 := hBx_10 4 _ rfl
                have xx5 := hBx_10 5 _ rfl
                have xx6 := hBx_10 6 _ rfl
                have xx7 := hBx_10 7 _ rfl
                have xx8 := hBx_10 8 _ rfl
                have xx9 := hBx_10 9 _ rfl
                have fx := hFx_10
                go_upto_region 16 with fail
                clear xx0 xx1 xx2 xx3 xx4 xx5 xx6 xx7 xx8 xx9 yx
                clear fx
                have he11 : Ext w (w10.alloc (Obj.cells #[(.slice A1z x.regs.length c1z), .int .i64 x.pc, (.slice A2z x.mem.length c2z), .int .i64 x.save, .bool x.lets, .bool x.waits, .int .i64 x.halt, (.slice A3z x.ins.length c3z), (.slice A4z x.outs.length c4z), .int .i64 x.count] 26)) := Ext.hold he10
                have hs11 : w10.heap.size + 1 ≤ ((w10.alloc (Obj.cells #[(.slice A1z x.regs.length c1z), .int .i64 x.pc, (.slice A2z x.mem.length c2z), .int .i64 x.save, .bool x.lets, .bool x.waits, .int .i64 x.halt, (.slice A3z x.ins.length c3z), (.slice A4z x.outs.length c4z), .int .i64 x.count] 26))).heap.size := by simp
                have hb1_11 : Ext w1 (w10.alloc (Obj.cells #[(.slice A1z x.regs.length c1z), .int .i64 x.pc, (.slice A2z x.mem.length c2z), .int .i64 x.save, .bool x.lets, .bool x.waits, .int .i64 x.halt, (.slice A3z x.ins.length c3z), (.slice A4z x.outs.length c4z), .int .i64 x.count] 26)) := Ext.hold hb1_10
                have hb4_11 : Ext w4 (w10.alloc (Obj.cells #[(.slice A1z x.regs.length c1z), .int .i64 x.pc, (.slice A2z x.mem.length c2z), .int .i64 x.save, .bool x.lets, .bool x.waits, .int .i64 x.halt, (.slice A3z x.ins.length c3z), (.slice A4z x.outs.length c4z), .int .i64 x.count] 26)) := Ext.hold hb4_10
                have hb10_11 : Ext w10 (w10.alloc (Obj.cells #[(.slice A1z x.regs.length c1z), .int .i64 x.pc, (.slice A2z x.mem.length c2z), .int .i64 x.save, .bool x.lets, .bool x.waits, .int .i64 x.halt, (.slice A3z x.ins.length c3z), (.slice A4z x.outs.length c4z), .int .i64 x.count] 26)) := Ext.hold hb10_10
                have hBm_11 : Bx (w10.alloc (Obj.cells #[(.slice A1z x.regs.length c1z), .int .i64 x.pc, (.slice A2z x.mem.length c2z), .int .i64 x.save, .bool x.lets, .bool x.waits, .int .i64 x.halt, (.slice A3z x.ins.length c3z), (.slice A4z x.outs.length c4z), .int .i64 x.count] 26)) (w1.heap.size) [(.slice A1m m.regs.length c1m), .int .i64 m.pc, (.slice A2m m.mem.length c2m), .int .i64 m.save, .bool m.lets, .bool m.waits, .int .i64 m.halt, (.slice A3m m.ins.length c3m), (.slice A4m m.outs.length c4m), .int .i64 m.count] := Bx.hold hBm_10
                have hFm_11 : ∀ oo, (w10.alloc (Obj.cells #[(.slice A1z x.regs.length c1z), .int .i64 x.pc, (.slice A2z x.mem.length c2z), .int .i64 x.save, .bool x.lets, .bool x.waits, .int .i64 x.halt, (.slice A3z x.ins.length c3z), (.slice A4z x.outs.length c4z), .int .i64 x.count] 26)).frozen? ⟨w1.heap.size, oo, none⟩ = false := fz_hold hFm_10
                have hBx_11 : Bx (w10.alloc (Obj.cells #[(.slice A1z x.regs.length c1z), .int .i64 x.pc, (.slice A2z x.mem.length c2z), .int .i64 x.save, .bool x.lets, .bool x.waits, .int .i64 x.halt, (.slice A3z x.ins.length c3z), (.slice A4z x.outs.length c4z), .int .i64 x.count] 26)) (w4.heap.size) [(.slice A1x x.regs.length c1x), .int .i64 x.pc, (.slice A2x x.mem.length c2x), .int .i64 x.save, .bool x.lets, .bool x.waits, .int .i64 x.halt, (.slice A3x x.ins.length c3x), (.slice A4x x.outs.length c4x), .int .i64 x.count] := Bx.hold hBx_10
                have hFx_11 : ∀ oo, (w10.alloc (Obj.cells #[(.slice A1z x.regs.length c1z), .int .i64 x.pc, (.slice A2z x.mem.length c2z), .int .i64 x.save, .bool x.lets, .bool x.waits, .int .i64 x.halt, (.slice A3z x.ins.length c3z), (.slice A4z x.outs.length c4z), .int .i64 x.count] 26)).frozen? ⟨w4.heap.size, oo, none⟩ = false := fz_hold hFx_10
                have hBy_11 : Bx (w10.alloc (Obj.cells #[(.slice A1z x.regs.length c1z), .int .i64 x.pc, (.slice A2z x.mem.length c2z), .int .i64 x.save, .bool x.lets, .bool x.waits, .int .i64 x.halt, (.slice A3z x.ins.length c3z), (.slice A4z x.outs.length c4z), .int .i64 x.count] 26)) (w5.heap.size) [(.slice A1m m.regs.length c1m), .int .i64 ys.pc, (.slice A2m m.mem.length c2m), .int .i64 ys.save, .bool ys.lets, .bool ys.waits, .int .i64 ys.halt, (.slice A3m m.ins.length c3m), (.slice A4m m.outs.length c4m), .int .i64 ys.count] := Bx.hold hBy_10
                have hFy_11 : ∀ oo, (w10.alloc (Obj.cells #[(.slice A1z x.regs.length c1z), .int .i64 x.pc, (.slice A2z x.mem.length c2z), .int .i64 x.save, .bool x.lets, .bool x.waits, .int .i64 x.halt, (.slice A3z x.ins.length c3z), (.slice A4z x.outs.length c4z), .int .i64 x.count] 26)).frozen? ⟨w5.heap.size, oo, none⟩ = false := fz_hold hFy_10
                have hBz_11 : Bx (w10.alloc (Obj.cells #[(.slice A1z x.regs.length c1z), .int .i64 x.pc, (.slice A2z x.mem.length c2z), .int .i64 x.save, .bool x.lets, .bool x.waits, .int .i64 x.halt, (.slice A3z x.ins.length c3z), (.slice A4z x.outs.length c4z), .int .i64 x.count] 26)) (w10.heap.size) [(.slice A1z x.regs.length c1z), .int .i64 x.pc, (.slice A2z x.mem.length c2z), .int .i64 x.save, .bool x.lets, .bool x.waits, .int .i64 x.halt, (.slice A3z x.ins.length c3z), (.slice A4z x.outs.length c4z), .int .i64 x.count] := Bx.new w10 #[(.slice A1z x.regs.length c1z), .int .i64 x.pc, (.slice A2z x.mem.length c2z), .int .i64 x.save, .bool x.lets, .bool x.waits, .int .i64 x.halt, (.slice A3z x.ins.length c3z), (.slice A4z x.outs.length c4z), .int .i64 x.count] 26
                have hFz_11 : ∀ oo, (w10.alloc (Obj.cells #[(.slice A1z x.regs.length c1z), .int .i64 x.pc, (.slice A2z x.mem.length c2z), .int .i64 x.save, .bool x.lets, .bool x.waits, .int .i64 x.halt, (.slice A3z x.ins.length c3z), (.slice A4z x.outs.length c4z), .int .i64 x.count] 26)).frozen? ⟨w10.heap.size, oo, none⟩ = false := fz_new w10 #[(.slice A1z x.regs.length c1z), .int .i64 x.pc, (.slice A2z x.mem.length c2z), .int .i64 x.save, .bool x.lets, .bool x.waits, .int .i64 x.halt, (.slice A3z x.ins.length c3z), (.slice A4z x.outs.length c4z), .int .i64 x.count] 26 rfl
                generalize (w10.alloc (Obj.cells #[(.slice A1z x.regs.length c1z), .int .i64 x.pc, (.slice A2z x.mem.length c2z), .int .i64 x.save, .bool x.lets, .bool x.waits, .int .i64 x.halt, (.slice A3z x.ins.length c3z), (.slice A4z x.outs.length c4z), .int .i64 x.count] 26)) = w11 at *
                clear hBm_10 hFm_10 hBx_10 hFx_10 hBy_10 hFy_10 hb1_10 hb4_10 hb10_10
                have qxx : decide (x = x) = true := decide_eq_true rfl
                have yx : w4.heap.size < w11.heap.size := by omega
                have xx0 := hBx_11 0 _ rfl
                have xx1 := hBx_11 1 _ rfl
                have xx2 := hBx_11 2 _ rfl
                have xx3 := hBx_11 3 _ rfl
                have xx4 := hBx_11 4 _ rfl
                have xx5 := hBx_11 5 _ rfl
                have xx6 := hBx_11 6 _ rfl
                have xx7 := hBx_11 7 _ rfl
                have xx8 := hBx_11 8 _ rfl
                have xx9 := hBx_11 9 _ rfl
                have fx := hFx_11
                have yz : w10.heap.size < w11.heap.size := by omega
                have xz0 := hBz_11 0 _ rfl
                have xz1 := hBz_11 1 _ rfl
                have xz2 := hBz_11 2 _ rfl
                have xz3 := hBz_11 3 _ rfl
                have xz4 := hBz_11 4 _ rfl
                have xz5 := hBz_11 5 _ rfl
                have xz6 := hBz_11 6 _ rfl
                have xz7 := hBz_11 7 _ rfl
                have xz8 := hBz_11 8 _ rfl
                have xz9 := hBz_11 9 _ rfl
                have fz := hFz_11
                go_wp2_with fail
                refine (laMach_any x x _ _ _ _ _ _ _ _ _ (tx1.ext (Ext.hold hb4_11)) (tx2.ext (Ext.hold hb4_11)) (tx3.ext (Ext.hold hb4_11)) (tx4.ext (Ext.hold hb4_11)) (tz1.ext (Ext.hold hb10_11)) (tz2.ext (Ext.hold hb10_11)) (tz3.ext (Ext.hold hb10_11)) (tz4.ext (Ext.hold hb10_11))).mono ?_
                rintro e w12 ⟨rfl, hy⟩
                simp only [qxx]
                clear xx0 xx1 xx2 xx3 xx4 xx5 xx6 xx7 xx8 xx9 yx
                clear fx
                clear xz0 xz1 xz2 xz3 xz4 xz5 xz6 xz7 xz8 xz9 yz
                clear fz
                have hb1_12 : Ext w1 w12 := Ext.trans (Ext.hold hb1_11) hy
                have hb4_12 : Ext w4 w12 := Ext.trans (Ext.hold hb4_11) hy
                have hb10_12 : Ext w10 w12 := Ext.trans (Ext.hold hb10_11) hy
                have hs12 := hy.size
                try simp at hs12
                have he12 : Ext w w12 := Ext.trans (Ext.hold he11) hy
                have hBm_12 : Bx w12 (w1.heap.size) [(.slice A1m m.regs.length c1m), .int .i64 m.pc, (.slice A2m m.mem.length c2m), .int .i64 m.save, .bool m.lets, .bool m.waits, .int .i64 m.halt, (.slice A3m m.ins.length c3m), (.slice A4m m.outs.length c4m), .int .i64 m.count] := hy.bx (Bx.hold hBm_11) (by first | omega | (simp; done) | (simp; omega))
                have hFm_12 : ∀ oo, w12.frozen? ⟨w1.heap.size, oo, none⟩ = false := fun oo => (hy.frozen (by first | omega | (simp; done) | (simp; omega))).trans ((fz_hold hFm_11) oo)
                have hBx_12 : Bx w12 (w4.heap.size) [(.slice A1x x.regs.length c1x), .int .i64 x.pc, (.slice A2x x.mem.length c2x), .int .i64 x.save, .bool x.lets, .bool x.waits, .int .i64 x.halt, (.slice A3x x.ins.length c3x), (.slice A4x x.outs.length c4x), .int .i64 x.count] := hy.bx (Bx.hold hBx_11) (by first | omega | (simp; done) | (simp; omega))
                have hFx_12 : ∀ oo, w12.frozen? ⟨w4.heap.size, oo, none⟩ = false := fun oo => (hy.frozen (by first | omega | (simp; done) | (simp; omega))).trans ((fz_hold hFx_11) oo)
                have hBy_12 : Bx w12 (w5.heap.size) [(.slice A1m m.regs.length c1m), .int .i64 ys.pc, (.slice A2m m.mem.length c2m), .int .i64 ys.save, .bool ys.lets, .bool ys.waits, .int .i64 ys.halt, (.slice A3m m.ins.length c3m), (.slice A4m m.outs.length c4m), .int .i64 ys.count] := hy.bx (Bx.hold hBy_11) (by first | omega | (simp; done) | (simp; omega))
                have hFy_12 : ∀ oo, w12.frozen? ⟨w5.heap.size, oo, none⟩ = false := fun oo => (hy.frozen (by first | omega | (simp; done) | (simp; omega))).trans ((fz_hold hFy_11) oo)
                have hBz_12 : Bx w12 (w10.heap.size) [(.slice A1z x.regs.length c1z), .int .i64 x.pc, (.slice A2z x.mem.length c2z), .int .i64 x.save, .bool x.lets, .bool x.waits, .int .i64 x.halt, (.slice A3z x.ins.length c3z), (.slice A4z x.outs.length c4z), .int .i64 x.count] := hy.bx (Bx.hold hBz_11) (by first | omega | (simp; done) | (simp; omega))
                have hFz_12 : ∀ oo, w12.frozen? ⟨w10.heap.size, oo, none⟩ = false := fun oo => (hy.frozen (by first | omega | (simp; done) | (simp; omega))).trans ((fz_hold hFz_11) oo)
                try clear hBm_11 hFm_11 hBx_11 hFx_11 hBy_11 hFy_11 hBz_11 hFz_11
                clear hy hb1_11 hb4_11 hb10_11
                have ym : w1.heap.size < w12.heap.size := by omega
                have xm0 := hBm_12 0 _ rfl
                have xm1 := hBm_12 1 _ rfl
                have xm2 := hBm_12 2 _ rfl
                have xm3 := hBm_12 3 _ rfl
                have xm4 := hBm_12 4 _ rfl
                have xm5 := hBm_12 5 _ rfl
                have xm6 := hBm_12 6 _ rfl
                have xm7 := hBm_12 7 _ rfl
                have xm8 := hBm_12 8 _ rfl
                have xm9 := hBm_12 9 _ rfl
                have fm := hFm_12
                have yx : w4.heap.size < w12.heap.size := by omega
                have xx0 := hBx_12 0 _ rfl
                have xx1 := hBx_12 1 _ rfl
                have xx2 := hBx_12 2 _ rfl
                have xx3 := hBx_12 3 _ rfl
                have xx4 := hBx_12 4 _ rfl
                have xx5 := hBx_12 5 _ rfl
                have xx6 := hBx_12 6 _ rfl
                have xx7 := hBx_12 7 _ rfl
                have xx8 := hBx_12 8 _ rfl
                have xx9 := hBx_12 9 _ rfl
                have fx := hFx_12
                have yy : w5.heap.size < w12.heap.size := by omega
                have xy0 := hBy_12 0 _ rfl
                have xy1 := hBy_12 1 _ rfl
                have xy2 := hBy_12 2 _ rfl
                have xy3 := hBy_12 3 _ rfl
                have xy4 := hBy_12 4 _ rfl
                have xy5 := hBy_12 5 _ rfl
                have xy6 := hBy_12 6 _ rfl
                have xy7 := hBy_12 7 _ rfl
                have xy8 := hBy_12 8 _ rfl
                have xy9 := hBy_12 9 _ rfl
                have fy := hFy_12
                have yz : w10.heap.size < w12.heap.size := by omega
                have xz0 := hBz_12 0 _ rfl
                have xz1 := hBz_12 1 _ rfl
                have xz2 := hBz_12 2 _ rfl
                have xz3 := hBz_12 3 _ rfl
                have xz4 := hBz_12 4 _ rfl
                have xz5 := hBz_12 5 _ rfl
                have xz6 := hBz_12 6 _ rfl
                have xz7 := hBz_12 7 _ rfl
                have xz8 := hBz_12 8 _ rfl
                have xz9 := hBz_12 9 _ rfl
                have fz := hFz_12
                go_wp2_with fail
                go_ret
                exact ⟨rfl, Ext.hold he12⟩
              · 
                have ym : w1.heap.size < w9.heap.size := by omega
                have xm0 := hBm_9 0 _ rfl
                have xm1 := hBm_9 1 _ rfl
                have xm2 := hBm_9 2 _ rfl
                have xm3 := hBm_9 3 _ rfl
                have xm4 := hBm_9 4 _ rfl
                have xm5 := hBm_9 5 _ rfl
                have xm6 := hBm_9 6 _ rfl
                have xm7 := hBm_9 7 _ rfl
                have xm8 := hBm_9 8 _ rfl
                have xm9 := hBm_9 9 _ rfl
                have fm := hFm_9
                have yy : w5.heap.size < w9.heap.size := by omega
                have xy0 := hBy_9 0 _ rfl
                have xy1 := hBy_9 1 _ rfl
                have xy2 := hBy_9 2 _ rfl
                have xy3 := hBy_9 3 _ rfl
                have xy4 := hBy_9 4 _ rfl
                have xy5 := hBy_9 5 _ rfl
                have xy6 := hBy_9 6 _ rfl
                have xy7 := hBy_9 7 _ rfl
                have xy8 := hBy_9 8 _ rfl
                have xy9 := hBy_9 9 _ rfl
                have fy := hFy_9
                have yx : w4.heap.size < w9.heap.size := by omega
                have xx0 := hBx_9 0 _ rfl
                have xx1 := hBx_9 1 _ rfl
                have xx2 := hBx_9 2 _ rfl
                have xx3 := hBx_9 3 _ rfl
                have xx4 := hBx_9 4 _ rfl
                have xx5 := hBx_9 5 _ rfl
                have xx6 := hBx_9 6 _ rfl
                have xx7 := hBx_9 7 _ rfl
                have xx8 := hBx_9 8 _ rfl
                have xx9 := hBx_9 9 _ rfl
                have fx := hFx_9
                go_upto_region 15 with fail
                clear xm0 xm1 xm2 xm3 xm4 xm5 xm6 xm7 xm8 xm9 ym
                clear fm
                clear xy0 xy1 xy2 xy3 xy4 xy5 xy6 xy7 xy8 xy9 yy
                clear fy
                clear xx0 xx1 xx2 xx3 xx4 xx5 xx6 xx7 xx8 xx9 yx
                clear fx
                clear hwy hyo
                have h1y := HY1.out
                have ym : w1.heap.size < w9.heap.size := by omega
                have xm0 := hBm_9 0 _ rfl
                have xm1 := hBm_9 1 _ rfl
                have xm2 := hBm_9 2 _ rfl
                have xm3 := hBm_9 3 _ rfl
                have xm4 := hBm_9 4 _ rfl
                have xm5 := hBm_9 5 _ rfl
                have xm6 := hBm_9 6 _ rfl
                have xm7 := hBm_9 7 _ rfl
                have xm8 := hBm_9 8 _ rfl
                have xm9 := hBm_9 9 _ rfl
                have fm := hFm_9
                have yy : w5.heap.size < w9.heap.size := by omega
                have xy0 := hBy_9 0 _ rfl
                have xy1 := hBy_9 1 _ rfl
                have xy2 := hBy_9 2 _ rfl
                have xy3 := hBy_9 3 _ rfl
                have xy4 := hBy_9 4 _ rfl
                have xy5 := hBy_9 5 _ rfl
                have xy6 := hBy_9 6 _ rfl
                have xy7 := hBy_9 7 _ rfl
                have xy8 := hBy_9 8 _ rfl
                have xy9 := hBy_9 9 _ rfl
                have fy := hFy_9
                have yx : w4.heap.size < w9.heap.size := by omega
                have xx0 := hBx_9 0 _ rfl
                have xx1 := hBx_9 1 _ rfl
                have xx2 := hBx_9 2 _ rfl
                have xx3 := hBx_9 3 _ rfl
                have xx4 := hBx_9 4 _ rfl
                have xx5 := hBx_9 5 _ rfl
                have xx6 := hBx_9 6 _ rfl
                have xx7 := hBx_9 7 _ rfl
                have xx8 := hBx_9 8 _ rfl
                have xx9 := hBx_9 9 _ rfl
                have fx := hFx_9
                go_wp2_with fail
                have hcy := implStep_r ys false _ _ _ _ (w9) (by rw [h1y.1]; exact (tm1.ext (Ext.hold hb1_9))) (by rw [h1y.2.1]; exact (tm2.ext (Ext.hold hb1_9))) (by rw [h1y.2.2.1]; exact (tm3.ext (Ext.hold hb1_9))) (by rw [h1y.2.2.2]; exact (tm4.ext (Ext.hold hb1_9))) (by rw [h1y.1]; omega) (by rw [h1y.2.1]; omega) (by rw [h1y.2.2.1]; omega) (by rw [h1y.2.2.2]; omega) (by rw [h1y.2.2.2]; omega) lf (hF.ext (Ext.hold he9))
                clear h1y
                refine hcy.mono ?_
                clear hcy
                intro e w10 hr
                rw [← HZ.out] at hr
                unfold MRet at hr
                obtain ⟨A1z, A2z, A3z, A4z, c1z, c2z, c3z, c4z, rfl, tz1, tz2, tz3, tz4, hy⟩ := hr
                clear xm0 xm1 xm2 xm3 xm4 xm5 xm6 xm7 xm8 xm9 ym
                clear fm
                clear xy0 xy1 xy2 xy3 xy4 xy5 xy6 xy7 xy8 xy9 yy
                clear fy
                clear xx0 xx1 xx2 xx3 xx4 xx5 xx6 xx7 xx8 xx9 yx
                clear fx
                have hb1_10 : Ext w1 w10 := Ext.trans (Ext.hold hb1_9) hy
                have hb4_10 : Ext w4 w10 := Ext.trans (Ext.hold hb4_9) hy
                have hs10 := hy.size
                try simp at hs10
                have he10 : Ext w w10 := Ext.trans (Ext.hold he9) hy
                have hBm_10 : Bx w10 (w1.heap.size) [(.slice A1m m.regs.length c1m), .int .i64 m.pc, (.slice A2m m.mem.length c2m), .int .i64 m.save, .bool m.lets, .bool m.waits, .int .i64 m.halt, (.slice A3m m.ins.length c3m), (.slice A4m m.outs.length c4m), .int .i64 m.count] := hy.bx (Bx.hold hBm_9) (by first | omega | (simp; done) | (simp; omega))
                have hFm_10 : ∀ oo, w10.frozen? ⟨w1.heap.size, oo, none⟩ = false := fun oo => (hy.frozen (by first | omega | (simp; done) | (simp; omega))).trans ((fz_hold hFm_9) oo)
                have hBx_10 : Bx w10 (w4.heap.size) [(.slice A1x x.regs.length c1x), .int .i64 x.pc, (.slice A2x x.mem.length c2x), .int .i64 x.save, .bool x.lets, .bool x.waits, .int .i64 x.halt, (.slice A3x x.ins.length c3x), (.slice A4x x.outs.length c4x), .int .i64 x.count] := hy.bx (Bx.hold hBx_9) (by first | omega | (simp; done) | (simp; omega))
                have hFx_10 : ∀ oo, w10.frozen? ⟨w4.heap.size, oo, none⟩ = false := fun oo => (hy.frozen (by first | omega | (simp; done) | (simp; omega))).trans ((fz_hold hFx_9) oo)
                have hBy_10 : Bx w10 (w5.heap.size) [(.slice A1m m.regs.length c1m), .int .i64 ys.pc, (.slice A2m m.mem.length c2m), .int .i64 ys.save, .bool ys.lets, .bool ys.waits, .int .i64 ys.halt, (.slice A3m m.ins.length c3m), (.slice A4m m.outs.length c4m), .int .i64 ys.count] := hy.bx (Bx.hold hBy_9) (by first | omega | (simp; done) | (simp; omega))
                have hFy_10 : ∀ oo, w10.frozen? ⟨w5.heap.size, oo, none⟩ = false := fun oo => (hy.frozen (by first | omega | (simp; done) | (simp; omega))).trans ((fz_hold hFy_9) oo)
                try clear hBm_9 hFm_9 hBx_9 hFx_9 hBy_9 hFy_9
                clear hy hb1_9 hb4_9
                have hb10_10 : Ext w10 w10 := Ext.refl _
                have yx : w4.heap.size < w10.heap.size := by omega
                have xx0 := hBx_10 0 _ rfl
                have xx1 := hBx_10 1 _ rfl
                have xx2 := hBx_10 2 _ rfl
                have xx3 := hBx_10 3 _ rfl
                have xx4 := hBx_10 4 _ rfl
                have xx5 := hBx_10 5 _ rfl
                have xx6 := hBx_10 6 _ rfl
                have xx7 := hBx_10 7 _ rfl
                have xx8 := hBx_10 8 _ rfl
                have xx9 := hBx_10 9 _ rfl
                have fx := hFx_10
                go_upto_region 16 with fail
                clear xx0 xx1 xx2 xx3 xx4 xx5 xx6 xx7 xx8 xx9 yx
                clear fx
                have he11 : Ext w (w10.alloc (Obj.cells #[(.slice A1z x.regs.length c1z), .int .i64 x.pc, (.slice A2z x.mem.length c2z), .int .i64 x.save, .bool x.lets, .bool x.waits, .int .i64 x.halt, (.slice A3z x.ins.length c3z), (.slice A4z x.outs.length c4z), .int .i64 x.count] 26)) := Ext.hold he10
                have hs11 : w10.heap.size + 1 ≤ ((w10.alloc (Obj.cells #[(.slice A1z x.regs.length c1z), .int .i64 x.pc, (.slice A2z x.mem.length c2z), .int .i64 x.save, .bool x.lets, .bool x.waits, .int .i64 x.halt, (.slice A3z x.ins.length c3z), (.slice A4z x.outs.length c4z), .int .i64 x.count] 26))).heap.size := by simp
                have hb1_11 : Ext w1 (w10.alloc (Obj.cells #[(.slice A1z x.regs.length c1z), .int .i64 x.pc, (.slice A2z x.mem.length c2z), .int .i64 x.save, .bool x.lets, .bool x.waits, .int .i64 x.halt, (.slice A3z x.ins.length c3z), (.slice A4z x.outs.length c4z), .int .i64 x.count] 26)) := Ext.hold hb1_10
                have hb4_11 : Ext w4 (w10.alloc (Obj.cells #[(.slice A1z x.regs.length c1z), .int .i64 x.pc, (.slice A2z x.mem.length c2z), .int .i64 x.save, .bool x.lets, .bool x.waits, .int .i64 x.halt, (.slice A3z x.ins.length c3z), (.slice A4z x.outs.length c4z), .int .i64 x.count] 26)) := Ext.hold hb4_10
                have hb10_11 : Ext w10 (w10.alloc (Obj.cells #[(.slice A1z x.regs.length c1z), .int .i64 x.pc, (.slice A2z x.mem.length c2z), .int .i64 x.save, .bool x.lets, .bool x.waits, .int .i64 x.halt, (.slice A3z x.ins.length c3z), (.slice A4z x.outs.length c4z), .int .i64 x.count] 26)) := Ext.hold hb10_10
                have hBm_11 : Bx (w10.alloc (Obj.cells #[(.slice A1z x.regs.length c1z), .int .i64 x.pc, (.slice A2z x.mem.length c2z), .int .i64 x.save, .bool x.lets, .bool x.waits, .int .i64 x.halt, (.slice A3z x.ins.length c3z), (.slice A4z x.outs.length c4z), .int .i64 x.count] 26)) (w1.heap.size) [(.slice A1m m.regs.length c1m), .int .i64 m.pc, (.slice A2m m.mem.length c2m), .int .i64 m.save, .bool m.lets, .bool m.waits, .int .i64 m.halt, (.slice A3m m.ins.length c3m), (.slice A4m m.outs.length c4m), .int .i64 m.count] := Bx.hold hBm_10
                have hFm_11 : ∀ oo, (w10.alloc (Obj.cells #[(.slice A1z x.regs.length c1z), .int .i64 x.pc, (.slice A2z x.mem.length c2z), .int .i64 x.save, .bool x.lets, .bool x.waits, .int .i64 x.halt, (.slice A3z x.ins.length c3z), (.slice A4z x.outs.length c4z), .int .i64 x.count] 26)).frozen? ⟨w1.heap.size, oo, none⟩ = false := fz_hold hFm_10
                have hBx_11 : Bx (w10.alloc (Obj.cells #[(.slice A1z x.regs.length c1z), .int .i64 x.pc, (.slice A2z x.mem.length c2z), .int .i64 x.save, .bool x.lets, .bool x.waits, .int .i64 x.halt, (.slice A3z x.ins.length c3z), (.slice A4z x.outs.length c4z), .int .i64 x.count] 26)) (w4.heap.size) [(.slice A1x x.regs.length c1x), .int .i64 x.pc, (.slice A2x x.mem.length c2x), .int .i64 x.save, .bool x.lets, .bool x.waits, .int .i64 x.halt, (.slice A3x x.ins.length c3x), (.slice A4x x.outs.length c4x), .int .i64 x.count] := Bx.hold hBx_10
                have hFx_11 : ∀ oo, (w10.alloc (Obj.cells #[(.slice A1z x.regs.length c1z), .int .i64 x.pc, (.slice A2z x.mem.length c2z), .int .i64 x.save, .bool x.lets, .bool x.waits, .int .i64 x.halt, (.slice A3z x.ins.length c3z), (.slice A4z x.outs.length c4z), .int .i64 x.count] 26)).frozen? ⟨w4.heap.size, oo, none⟩ = false := fz_hold hFx_10
                have hBy_11 : Bx (w10.alloc (Obj.cells #[(.slice A1z x.regs.length c1z), .int .i64 x.pc, (.slice A2z x.mem.length c2z), .int .i64 x.save, .bool x.lets, .bool x.waits, .int .i64 x.halt, (.slice A3z x.ins.length c3z), (.slice A4z x.outs.length c4z), .int .i64 x.count] 26)) (w5.heap.size) [(.slice A1m m.regs.length c1m), .int .i64 ys.pc, (.slice A2m m.mem.length c2m), .int .i64 ys.save, .bool ys.lets, .bool ys.waits, .int .i64 ys.halt, (.slice A3m m.ins.length c3m), (.slice A4m m.outs.length c4m), .int .i64 ys.count] := Bx.hold hBy_10
                have hFy_11 : ∀ oo, (w10.alloc (Obj.cells #[(.slice A1z x.regs.length c1z), .int .i64 x.pc, (.slice A2z x.mem.length c2z), .int .i64 x.save, .bool x.lets, .bool x.waits, .int .i64 x.halt, (.slice A3z x.ins.length c3z), (.slice A4z x.outs.length c4z), .int .i64 x.count] 26)).frozen? ⟨w5.heap.size, oo, none⟩ = false := fz_hold hFy_10
                have hBz_11 : Bx (w10.alloc (Obj.cells #[(.slice A1z x.regs.length c1z), .int .i64 x.pc, (.slice A2z x.mem.length c2z), .int .i64 x.save, .bool x.lets, .bool x.waits, .int .i64 x.halt, (.slice A3z x.ins.length c3z), (.slice A4z x.outs.length c4z), .int .i64 x.count] 26)) (w10.heap.size) [(.slice A1z x.regs.length c1z), .int .i64 x.pc, (.slice A2z x.mem.length c2z), .int .i64 x.save, .bool x.lets, .bool x.waits, .int .i64 x.halt, (.slice A3z x.ins.length c3z), (.slice A4z x.outs.length c4z), .int .i64 x.count] := Bx.new w10 #[(.slice A1z x.regs.length c1z), .int .i64 x.pc, (.slice A2z x.mem.length c2z), .int .i64 x.save, .bool x.lets, .bool x.waits, .int .i64 x.halt, (.slice A3z x.ins.length c3z), (.slice A4z x.outs.length c4z), .int .i64 x.count] 26
                have hFz_11 : ∀ oo, (w10.alloc (Obj.cells #[(.slice A1z x.regs.length c1z), .int .i64 x.pc, (.slice A2z x.mem.length c2z), .int .i64 x.save, .bool x.lets, .bool x.waits, .int .i64 x.halt, (.slice A3z x.ins.length c3z), (.slice A4z x.outs.length c4z), .int .i64 x.count] 26)).frozen? ⟨w10.heap.size, oo, none⟩ = false := fz_new w10 #[(.slice A1z x.regs.length c1z), .int .i64 x.pc, (.slice A2z x.mem.length c2z), .int .i64 x.save, .bool x.lets, .bool x.waits, .int .i64 x.halt, (.slice A3z x.ins.length c3z), (.slice A4z x.outs.length c4z), .int .i64 x.count] 26 rfl
                generalize (w10.alloc (Obj.cells #[(.slice A1z x.regs.length c1z), .int .i64 x.pc, (.slice A2z x.mem.length c2z), .int .i64 x.save, .bool x.lets, .bool x.waits, .int .i64 x.halt, (.slice A3z x.ins.length c3z), (.slice A4z x.outs.length c4z), .int .i64 x.count] 26)) = w11 at *
                clear hBm_10 hFm_10 hBx_10 hFx_10 hBy_10 hFy_10 hb1_10 hb4_10 hb10_10
                have qxx : decide (x = x) = true := decide_eq_true rfl
                have yx : w4.heap.size < w11.heap.size := by omega
                have xx0 := hBx_11 0 _ rfl
                have xx1 := hBx_11 1 _ rfl
                have xx2 := hBx_11 2 _ rfl
                have xx3 := hBx_11 3 _ rfl
                have xx4 := hBx_11 4 _ rfl
                have xx5 := hBx_11 5 _ rfl
                have xx6 := hBx_11 6 _ rfl
                have xx7 := hBx_11 7 _ rfl
                have xx8 := hBx_11 8 _ rfl
                have xx9 := hBx_11 9 _ rfl
                have fx := hFx_11
                have yz : w10.heap.size < w11.heap.size := by omega
                have xz0 := hBz_11 0 _ rfl
                have xz1 := hBz_11 1 _ rfl
                have xz2 := hBz_11 2 _ rfl
                have xz3 := hBz_11 3 _ rfl
                have xz4 := hBz_11 4 _ rfl
                have xz5 := hBz_11 5 _ rfl
                have xz6 := hBz_11 6 _ rfl
                have xz7 := hBz_11 7 _ rfl
                have xz8 := hBz_11 8 _ rfl
                have xz9 := hBz_11 9 _ rfl
                have fz := hFz_11
                go_wp2_with fail
                refine (laMach_any x x _ _ _ _ _ _ _ _ _ (tx1.ext (Ext.hold hb4_11)) (tx2.ext (Ext.hold hb4_11)) (tx3.ext (Ext.hold hb4_11)) (tx4.ext (Ext.hold hb4_11)) (tz1.ext (Ext.hold hb10_11)) (tz2.ext (Ext.hold hb10_11)) (tz3.ext (Ext.hold hb10_11)) (tz4.ext (Ext.hold hb10_11))).mono ?_
                rintro e w12 ⟨rfl, hy⟩
                simp only [qxx]
                clear xx0 xx1 xx2 xx3 xx4 xx5 xx6 xx7 xx8 xx9 yx
                clear fx
                clear xz0 xz1 xz2 xz3 xz4 xz5 xz6 xz7 xz8 xz9 yz
                clear fz
                have hb1_12 : Ext w1 w12 := Ext.trans (Ext.hold hb1_11) hy
                have hb4_12 : Ext w4 w12 := Ext.trans (Ext.hold hb4_11) hy
                have hb10_12 : Ext w10 w12 := Ext.trans (Ext.hold hb10_11) hy
                have hs12 := hy.size
                try simp at hs12
                have he12 : Ext w w12 := Ext.trans (Ext.hold he11) hy
                have hBm_12 : Bx w12 (w1.heap.size) [(.slice A1m m.regs.length c1m), .int .i64 m.pc, (.slice A2m m.mem.length c2m), .int .i64 m.save, .bool m.lets, .bool m.waits, .int .i64 m.halt, (.slice A3m m.ins.length c3m), (.slice A4m m.outs.length c4m), .int .i64 m.count] := hy.bx (Bx.hold hBm_11) (by first | omega | (simp; done) | (simp; omega))
                have hFm_12 : ∀ oo, w12.frozen? ⟨w1.heap.size, oo, none⟩ = false := fun oo => (hy.frozen (by first | omega | (simp; done) | (simp; omega))).trans ((fz_hold hFm_11) oo)
                have hBx_12 : Bx w12 (w4.heap.size) [(.slice A1x x.regs.length c1x), .int .i64 x.pc, (.slice A2x x.mem.length c2x), .int .i64 x.save, .bool x.lets, .bool x.waits, .int .i64 x.halt, (.slice A3x x.ins.length c3x), (.slice A4x x.outs.length c4x), .int .i64 x.count] := hy.bx (Bx.hold hBx_11) (by first | omega | (simp; done) | (simp; omega))
                have hFx_12 : ∀ oo, w12.frozen? ⟨w4.heap.size, oo, none⟩ = false := fun oo => (hy.frozen (by first | omega | (simp; done) | (simp; omega))).trans ((fz_hold hFx_11) oo)
                have hBy_12 : Bx w12 (w5.heap.size) [(.slice A1m m.regs.length c1m), .int .i64 ys.pc, (.slice A2m m.mem.length c2m), .int .i64 ys.save, .bool ys.lets, .bool ys.waits, .int .i64 ys.halt, (.slice A3m m.ins.length c3m), (.slice A4m m.outs.length c4m), .int .i64 ys.count] := hy.bx (Bx.hold hBy_11) (by first | omega | (simp; done) | (simp; omega))
                have hFy_12 : ∀ oo, w12.frozen? ⟨w5.heap.size, oo, none⟩ = false := fun oo => (hy.frozen (by first | omega | (simp; done) | (simp; omega))).trans ((fz_hold hFy_11) oo)
                have hBz_12 : Bx w12 (w10.heap.size) [(.slice A1z x.regs.length c1z), .int .i64 x.pc, (.slice A2z x.mem.length c2z), .int .i64 x.save, .bool x.lets, .bool x.waits, .int .i64 x.halt, (.slice A3z x.ins.length c3z), (.slice A4z x.outs.length c4z), .int .i64 x.count] := hy.bx (Bx.hold hBz_11) (by first | omega | (simp; done) | (simp; omega))
                have hFz_12 : ∀ oo, w12.frozen? ⟨w10.heap.size, oo, none⟩ = false := fun oo => (hy.frozen (by first | omega | (simp; done) | (simp; omega))).trans ((fz_hold hFz_11) oo)
                try clear hBm_11 hFm_11 hBx_11 hFx_11 hBy_11 hFy_11 hBz_11 hFz_11
                clear hy hb1_11 hb4_11 hb10_11
                have ym : w1.heap.size < w12.heap.size := by omega
                have xm0 := hBm_12 0 _ rfl
                have xm1 := hBm_12 1 _ rfl
                have xm2 := hBm_12 2 _ rfl
                have xm3 := hBm_12 3 _ rfl
                have xm4 := hBm_12 4 _ rfl
                have xm5 := hBm_12 5 _ rfl
                have xm6 := hBm_12 6 _ rfl
                have xm7 := hBm_12 7 _ rfl
                have xm8 := hBm_12 8 _ rfl
                have xm9 := hBm_12 9 _ rfl
                have fm := hFm_12
                have yx : w4.heap.size < w12.heap.size := by omega
                have xx0 := hBx_12 0 _ rfl
                have xx1 := hBx_12 1 _ rfl
                have xx2 := hBx_12 2 _ rfl
                have xx3 := hBx_12 3 _ rfl
                have xx4 := hBx_12 4 _ rfl
                have xx5 := hBx_12 5 _ rfl
                have xx6 := hBx_12 6 _ rfl
                have xx7 := hBx_12 7 _ rfl
                have xx8 := hBx_12 8 _ rfl
                have xx9 := hBx_12 9 _ rfl
                have fx := hFx_12
                have yy : w5.heap.size < w12.heap.size := by omega
                have xy0 := hBy_12 0 _ rfl
                have xy1 := hBy_12 1 _ rfl
                have xy2 := hBy_12 2 _ rfl
                have xy3 := hBy_12 3 _ rfl
                have xy4 := hBy_12 4 _ rfl
                have xy5 := hBy_12 5 _ rfl
                have xy6 := hBy_12 6 _ rfl
                have xy7 := hBy_12 7 _ rfl
                have xy8 := hBy_12 8 _ rfl
                have xy9 := hBy_12 9 _ rfl
                have fy := hFy_12
                have yz : w10.heap.size < w12.heap.size := by omega
                have xz0 := hBz_12 0 _ rfl
                have xz1 := hBz_12 1 _ rfl
                have xz2 := hBz_12 2 _ rfl
                have xz3 := hBz_12 3 _ rfl
                have xz4 := hBz_12 4 _ rfl
                have xz5 := hBz_12 5 _ rfl
                have xz6 := hBz_12 6 _ rfl
                have xz7 := hBz_12 7 _ rfl
                have xz8 := hBz_12 8 _ rfl
                have xz9 := hBz_12 9 _ rfl
                have fz := hFz_12
                go_wp2_with fail
                go_ret
                exact ⟨rfl, Ext.hold he12⟩
    · 
      have q1 : (m.halt != 0) = true := by simp [h0]
      clear h0
      have ym : w1.heap.size < w3.heap.size := by omega
      have xm0 := hBm_3 0 _ rfl
      have xm1 := hBm_3 1 _ rfl
      have xm2 := hBm_3 2 _ rfl
      have xm3 := hBm_3 3 _ rfl
      have xm4 := hBm_3 4 _ rfl
      have xm5 := hBm_3 5 _ rfl
      have xm6 := hBm_3 6 _ rfl
      have xm7 := hBm_3 7 _ rfl
      have xm8 := hBm_3 8 _ rfl
      have xm9 := hBm_3 9 _ rfl
      have fm := hFm_3
      go_wp2_with (go_at_call 30; refine (laOk_any _).mono ?_; rintro e w' ⟨rfl, rfl⟩)
      go_ret
      exact ⟨rfl, Ext.hold he3⟩

end Go.Proofs.YtabldlhigjhkeaaDoor
