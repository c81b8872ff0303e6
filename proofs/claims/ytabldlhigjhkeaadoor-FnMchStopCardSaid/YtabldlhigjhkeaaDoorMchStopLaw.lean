/-
  The law FnMchStop returns true for every input.
-/
import Derived.Test.YtabldlhigjhkeaaDoorLawRun
import Derived.Test.YtabldlhigjhkeaaDoorLaMach
import Derived.Test.YtabldlhigjhkeaaDoorLawPure
import Derived.Test.YtabldlhigjhkeaaDoorRegLib
import Derived.Deep.DeepCutAuto
namespace Go.Proofs.YtabldlhigjhkeaaDoor
open Go.RowKit

set_option linter.unusedVariables false
set_option linter.unusedSimpArgs false
set_option maxRecDepth 100000

set_option maxHeartbeats 64000000 in
theorem lawMchStop_any (code : List UInt8) (v : Value) (w : World) (h : Sl w (Old w) v code) (lf : Nat) (hF : Forms lf w) : Calls Tryd.prog 15 #[v] w fun e w' => e = .returned (.bool true) ∧ Ext w w' := by
  obtain ⟨Ac, cc, rfl, -, -⟩ := h.form
  by_cases hbig : 1048576 < code.length
  · have q1 : decide (1048576 < (code.length : Int)) = true := decide_eq_true (by omega)
    go_enter Tryd.func15, Tryd.ntmps15
    go_wp2
    go_ret
    exact ⟨rfl, Ext.refl _⟩
  have q1 : decide (1048576 < (code.length : Int)) = false := decide_eq_false (by omega)
  go_enter Tryd.func15, Tryd.ntmps15
  go_wp2_with fail
  refine (drawMchRun_any code _ _ h).mono ?_
  intro e w1 hd
  unfold DRun at hd
  obtain ⟨m, A1m, A2m, A3m, A4m, A5, c1m, c2m, c3m, c4m, c5, irqs, n, rfl, ⟨hl1, hl2, hl3, hl4⟩, ⟨hli, hiw, hn0, hn1⟩, tm1, tm2, tm3, tm4, ti, he1⟩ := hd
  have hs1 := he1.size
  have hb1_1 : Ext w1 w1 := Ext.refl _
  have HIW := hide True.intro
  clear q1 hbig
  have HW := hide hiw
  clear hiw
  go_upto_region 4 with fail
  have he2 : Ext w (w1.alloc (Obj.cells #[(.slice A1m m.regs.length c1m), .int .i64 m.pc, (.slice A2m m.mem.length c2m), .int .i64 m.save, .bool m.lets, .bool m.waits, .int .i64 m.halt, (.slice A3m m.ins.length c3m), (.slice A4m m.outs.length c4m), .int .i64 m.count] 26)) := Ext.hold he1
  have hs2 : w1.heap.size + 1 ≤ ((w1.alloc (Obj.cells #[(.slice A1m m.regs.length c1m), .int .i64 m.pc, (.slice A2m m.mem.length c2m), .int .i64 m.save, .bool m.lets, .bool m.waits, .int .i64 m.halt, (.slice A3m m.ins.length c3m), (.slice A4m m.outs.length c4m), .int .i64 m.count] 26))).heap.size := by simp
  have hb1_2 : Ext w1 (w1.alloc (Obj.cells #[(.slice A1m m.regs.length c1m), .int .i64 m.pc, (.slice A2m m.mem.length c2m), .int .i64 m.save, .bool m.lets, .bool m.waits, .int .i64 m.halt, (.slice A3m m.ins.length c3m), (.slice A4m m.outs.length c4m), .int .i64 m.count] 26)) := Ext.hold hb1_1
  have hBm_2 : Bx (w1.alloc (Obj.cells #[(.slice A1m m.regs.length c1m), .int .i64 m.pc, (.slice A2m m.mem.length c2m), .int .i64 m.save, .bool m.lets, .bool m.waits, .int .i64 m.halt, (.slice A3m m.ins.length c3m), (.slice A4m m.outs.length c4m), .int .i64 m.count] 26)) (w1.heap.size) [(.slice A1m m.regs.length c1m), .int .i64 m.pc, (.slice A2m m.mem.length c2m), .int .i64 m.save, .bool m.lets, .bool m.waits, .int .i64 m.halt, (.slice A3m m.ins.length c3m), (.slice A4m m.outs.length c4m), .int .i64 m.count] := Bx.new w1 #[(.slice A1m m.regs.length c1m), .int .i64 m.pc, (.slice A2m m.mem.length c2m), .int .i64 m.save, .bool m.lets, .bool m.waits, .int .i64 m.halt, (.slice A3m m.ins.length c3m), (.slice A4m m.outs.length c4m), .int .i64 m.count] 26
  have hFm_2 : ∀ oo, (w1.alloc (Obj.cells #[(.slice A1m m.regs.length c1m), .int .i64 m.pc, (.slice A2m m.mem.length c2m), .int .i64 m.save, .bool m.lets, .bool m.waits, .int .i64 m.halt, (.slice A3m m.ins.length c3m), (.slice A4m m.outs.length c4m), .int .i64 m.count] 26)).frozen? ⟨w1.heap.size, oo, none⟩ = false := fz_new w1 #[(.slice A1m m.regs.length c1m), .int .i64 m.pc, (.slice A2m m.mem.length c2m), .int .i64 m.save, .bool m.lets, .bool m.waits, .int .i64 m.halt, (.slice A3m m.ins.length c3m), (.slice A4m m.outs.length c4m), .int .i64 m.count] 26 rfl
  generalize (w1.alloc (Obj.cells #[(.slice A1m m.regs.length c1m), .int .i64 m.pc, (.slice A2m m.mem.length c2m), .int .i64 m.save, .bool m.lets, .bool m.waits, .int .i64 m.halt, (.slice A3m m.ins.length c3m), (.slice A4m m.outs.length c4m), .int .i64 m.count] 26)) = w2 at *
  clear hb1_1
  cases q0 : mchOkB m
  · 
    have ym : w1.heap.size < w2.heap.size := by omega
    have xm0 := hBm_2 0 _ rfl
    have xm1 := hBm_2 1 _ rfl
    have xm2 := hBm_2 2 _ rfl
    have xm3 := hBm_2 3 _ rfl
    have xm4 := hBm_2 4 _ rfl
    have xm5 := hBm_2 5 _ rfl
    have xm6 := hBm_2 6 _ rfl
    have xm7 := hBm_2 7 _ rfl
    have xm8 := hBm_2 8 _ rfl
    have xm9 := hBm_2 9 _ rfl
    have fm := hFm_2
    go_wp2_with fail
    refine (specMchOk_any m _ _ _ _ _ (tm1.ext (Ext.hold hb1_2)) (tm2.ext (Ext.hold hb1_2)) (tm3.ext (Ext.hold hb1_2)) (tm4.ext (Ext.hold hb1_2))).mono ?_
    rintro e w3 ⟨rfl, hy⟩
    simp only [q0]
    clear xm0 xm1 xm2 xm3 xm4 xm5 xm6 xm7 xm8 xm9 ym
    clear fm
    have hb1_3 : Ext w1 w3 := Ext.trans (Ext.hold hb1_2) hy
    have hs3 := hy.size
    try simp at hs3
    have he3 : Ext w w3 := Ext.trans (Ext.hold he2) hy
    have hBm_3 : Bx w3 (w1.heap.size) [(.slice A1m m.regs.length c1m), .int .i64 m.pc, (.slice A2m m.mem.length c2m), .int .i64 m.save, .bool m.lets, .bool m.waits, .int .i64 m.halt, (.slice A3m m.ins.length c3m), (.slice A4m m.outs.length c4m), .int .i64 m.count] := hy.bx (Bx.hold hBm_2) (by first | omega | (simp; done) | (simp; omega))
    have hFm_3 : ∀ oo, w3.frozen? ⟨w1.heap.size, oo, none⟩ = false := fun oo => (hy.frozen (by first | omega | (simp; done) | (simp; omega))).trans ((fz_hold hFm_2) oo)
    try clear hBm_2 hFm_2
    clear hy hb1_2
    have ym : w1.heap.size < w3.heap.size := by omega
    have xm0 := hBm_3 0 _ rfl
    have xm1 := hBm_3 1 _ rfl
    have xm2 := hBm_3 2 _ rfl
    have xm3 := hBm_3 3 _ rfl
    have xm4 := hBm_3 4 _ rfl
    have xm5 := hBm_3 5 _ rfl
    have xm6 := hBm_3 6 _ rfl
    have xm7 := hBm_3 7 _ rfl
    have xm8 := hBm_3 8 _ rfl
    have xm9 := hBm_3 9 _ rfl
    have fm := hFm_3
    go_wp2_with (go_at_call 30; refine (laOk_any _).mono ?_; rintro e w' ⟨rfl, rfl⟩)
    go_ret
    exact ⟨rfl, Ext.hold he3⟩
  · 
    have ym : w1.heap.size < w2.heap.size := by omega
    have xm0 := hBm_2 0 _ rfl
    have xm1 := hBm_2 1 _ rfl
    have xm2 := hBm_2 2 _ rfl
    have xm3 := hBm_2 3 _ rfl
    have xm4 := hBm_2 4 _ rfl
    have xm5 := hBm_2 5 _ rfl
    have xm6 := hBm_2 6 _ rfl
    have xm7 := hBm_2 7 _ rfl
    have xm8 := hBm_2 8 _ rfl
    have xm9 := hBm_2 9 _ rfl
    have fm := hFm_2
    go_wp2_with fail
    refine (specMchOk_any m _ _ _ _ _ (tm1.ext (Ext.hold hb1_2)) (tm2.ext (Ext.hold hb1_2)) (tm3.ext (Ext.hold hb1_2)) (tm4.ext (Ext.hold hb1_2))).mono ?_
    rintro e w3 ⟨rfl, hy⟩
    simp only [q0]
    clear xm0 xm1 xm2 xm3 xm4 xm5 xm6 xm7 xm8 xm9 ym
    clear fm
    have hb1_3 : Ext w1 w3 := Ext.trans (Ext.hold hb1_2) hy
    have hs3 := hy.size
    try simp at hs3
    have he3 : Ext w w3 := Ext.trans (Ext.hold he2) hy
    have hBm_3 : Bx w3 (w1.heap.size) [(.slice A1m m.regs.length c1m), .int .i64 m.pc, (.slice A2m m.mem.length c2m), .int .i64 m.save, .bool m.lets, .bool m.waits, .int .i64 m.halt, (.slice A3m m.ins.length c3m), (.slice A4m m.outs.length c4m), .int .i64 m.count] := hy.bx (Bx.hold hBm_2) (by first | omega | (simp; done) | (simp; omega))
    have hFm_3 : ∀ oo, w3.frozen? ⟨w1.heap.size, oo, none⟩ = false := fun oo => (hy.frozen (by first | omega | (simp; done) | (simp; omega))).trans ((fz_hold hFm_2) oo)
    try clear hBm_2 hFm_2
    clear hy hb1_2
    by_cases hn : 400 < n
    · 
      have q1 : decide (400 < n) = true := decide_eq_true hn
      have ym : w1.heap.size < w3.heap.size := by omega
      have xm0 := hBm_3 0 _ rfl
      have xm1 := hBm_3 1 _ rfl
      have xm2 := hBm_3 2 _ rfl
      have xm3 := hBm_3 3 _ rfl
      have xm4 := hBm_3 4 _ rfl
      have xm5 := hBm_3 5 _ rfl
      have xm6 := hBm_3 6 _ rfl
      have xm7 := hBm_3 7 _ rfl
      have xm8 := hBm_3 8 _ rfl
      have xm9 := hBm_3 9 _ rfl
      have fm := hFm_3
      go_wp2_with (go_at_call 30; refine (laOk_any _).mono ?_; rintro e w' ⟨rfl, rfl⟩)
      go_ret
      exact ⟨rfl, Ext.hold he3⟩
    · 
      have q1 : decide (400 < n) = false := decide_eq_false hn
      have hn4 : n ≤ 400 := by omega
      have ym : w1.heap.size < w3.heap.size := by omega
      have xm0 := hBm_3 0 _ rfl
      have xm1 := hBm_3 1 _ rfl
      have xm2 := hBm_3 2 _ rfl
      have xm3 := hBm_3 3 _ rfl
      have xm4 := hBm_3 4 _ rfl
      have xm5 := hBm_3 5 _ rfl
      have xm6 := hBm_3 6 _ rfl
      have xm7 := hBm_3 7 _ rfl
      have xm8 := hBm_3 8 _ rfl
      have xm9 := hBm_3 9 _ rfl
      have fm := hFm_3
      go_wp2_with fail
      refine (implRun_r m irqs n _ _ _ _ _ _ (tm1.ext (Ext.hold hb1_3)) (tm2.ext (Ext.hold hb1_3)) (tm3.ext (Ext.hold hb1_3)) (tm4.ext (Ext.hold hb1_3)) (ti.ext (Ext.hold hb1_3)) (by omega) (by omega) (by omega) (by omega) (by omega) lf (hF.ext (Ext.hold he3))).mono ?_
      intro e w4 hr
      unfold MRet at hr
      obtain ⟨A1x, A2x, A3x, A4x, c1x, c2x, c3x, c4x, rfl, tx1, tx2, tx3, tx4, hy⟩ := hr
      generalize hgx : mRun m irqs n = x at *
      have HX := hide hgx
      clear hgx
      clear xm0 xm1 xm2 xm3 xm4 xm5 xm6 xm7 xm8 xm9 ym
      clear fm
      have hb1_4 : Ext w1 w4 := Ext.trans (Ext.hold hb1_3) hy
      have hs4 := hy.size
      try simp at hs4
      have he4 : Ext w w4 := Ext.trans (Ext.hold he3) hy
      have hBm_4 : Bx w4 (w1.heap.size) [(.slice A1m m.regs.length c1m), .int .i64 m.pc, (.slice A2m m.mem.length c2m), .int .i64 m.save, .bool m.lets, .bool m.waits, .int .i64 m.halt, (.slice A3m m.ins.length c3m), (.slice A4m m.outs.length c4m), .int .i64 m.count] := hy.bx (Bx.hold hBm_3) (by first | omega | (simp; done) | (simp; omega))
      have hFm_4 : ∀ oo, w4.frozen? ⟨w1.heap.size, oo, none⟩ = false := fun oo => (hy.frozen (by first | omega | (simp; done) | (simp; omega))).trans ((fz_hold hFm_3) oo)
      try clear hBm_3 hFm_3
      clear hy hb1_3
      have hb4_4 : Ext w4 w4 := Ext.refl _
      have ym : w1.heap.size < w4.heap.size := by omega
      have xm0 := hBm_4 0 _ rfl
      have xm1 := hBm_4 1 _ rfl
      have xm2 := hBm_4 2 _ rfl
      have xm3 := hBm_4 3 _ rfl
      have xm4 := hBm_4 4 _ rfl
      have xm5 := hBm_4 5 _ rfl
      have xm6 := hBm_4 6 _ rfl
      have xm7 := hBm_4 7 _ rfl
      have xm8 := hBm_4 8 _ rfl
      have xm9 := hBm_4 9 _ rfl
      have fm := hFm_4
      go_upto_region 7 with fail
      clear xm0 xm1 xm2 xm3 xm4 xm5 xm6 xm7 xm8 xm9 ym
      clear fm
      have he5 : Ext w (w4.alloc (Obj.cells #[(.slice A1x x.regs.length c1x), .int .i64 x.pc, (.slice A2x x.mem.length c2x), .int .i64 x.save, .bool x.lets, .bool x.waits, .int .i64 x.halt, (.slice A3x x.ins.length c3x), (.slice A4x x.outs.length c4x), .int .i64 x.count] 26)) := Ext.hold he4
      have hs5 : w4.heap.size + 1 ≤ ((w4.alloc (Obj.cells #[(.slice A1x x.regs.length c1x), .int .i64 x.pc, (.slice A2x x.mem.length c2x), .int .i64 x.save, .bool x.lets, .bool x.waits, .int .i64 x.halt, (.slice A3x x.ins.length c3x), (.slice A4x x.outs.length c4x), .int .i64 x.count] 26))).heap.size := by simp
      have hb1_5 : Ext w1 (w4.alloc (Obj.cells #[(.slice A1x x.regs.length c1x), .int .i64 x.pc, (.slice A2x x.mem.length c2x), .int .i64 x.save, .bool x.lets, .bool x.waits, .int .i64 x.halt, (.slice A3x x.ins.length c3x), (.slice A4x x.outs.length c4x), .int .i64 x.count] 26)) := Ext.hold hb1_4
      have hb4_5 : Ext w4 (w4.alloc (Obj.cells #[(.slice A1x x.regs.length c1x), .int .i64 x.pc, (.slice A2x x.mem.length c2x), .int .i64 x.save, .bool x.lets, .bool x.waits, .int .i64 x.halt, (.slice A3x x.ins.length c3x), (.slice A4x x.outs.length c4x), .int .i64 x.count] 26)) := Ext.hold hb4_4
      have hBm_5 : Bx (w4.alloc (Obj.cells #[(.slice A1x x.regs.length c1x), .int .i64 x.pc, (.slice A2x x.mem.length c2x), .int .i64 x.save, .bool x.lets, .bool x.waits, .int .i64 x.halt, (.slice A3x x.ins.length c3x), (.slice A4x x.outs.length c4x), .int .i64 x.count] 26)) (w1.heap.size) [(.slice A1m m.regs.length c1m), .int .i64 m.pc, (.slice A2m m.mem.length c2m), .int .i64 m.save, .bool m.lets, .bool m.waits, .int .i64 m.halt, (.slice A3m m.ins.length c3m), (.slice A4m m.outs.length c4m), .int .i64 m.count] := Bx.hold hBm_4
      have hFm_5 : ∀ oo, (w4.alloc (Obj.cells #[(.slice A1x x.regs.length c1x), .int .i64 x.pc, (.slice A2x x.mem.length c2x), .int .i64 x.save, .bool x.lets, .bool x.waits, .int .i64 x.halt, (.slice A3x x.ins.length c3x), (.slice A4x x.outs.length c4x), .int .i64 x.count] 26)).frozen? ⟨w1.heap.size, oo, none⟩ = false := fz_hold hFm_4
      have hBx_5 : Bx (w4.alloc (Obj.cells #[(.slice A1x x.regs.length c1x), .int .i64 x.pc, (.slice A2x x.mem.length c2x), .int .i64 x.save, .bool x.lets, .bool x.waits, .int .i64 x.halt, (.slice A3x x.ins.length c3x), (.slice A4x x.outs.length c4x), .int .i64 x.count] 26)) (w4.heap.size) [(.slice A1x x.regs.length c1x), .int .i64 x.pc, (.slice A2x x.mem.length c2x), .int .i64 x.save, .bool x.lets, .bool x.waits, .int .i64 x.halt, (.slice A3x x.ins.length c3x), (.slice A4x x.outs.length c4x), .int .i64 x.count] := Bx.new w4 #[(.slice A1x x.regs.length c1x), .int .i64 x.pc, (.slice A2x x.mem.length c2x), .int .i64 x.save, .bool x.lets, .bool x.waits, .int .i64 x.halt, (.slice A3x x.ins.length c3x), (.slice A4x x.outs.length c4x), .int .i64 x.count] 26
      have hFx_5 : ∀ oo, (w4.alloc (Obj.cells #[(.slice A1x x.regs.length c1x), .int .i64 x.pc, (.slice A2x x.mem.length c2x), .int .i64 x.save, .bool x.lets, .bool x.waits, .int .i64 x.halt, (.slice A3x x.ins.length c3x), (.slice A4x x.outs.length c4x), .int .i64 x.count] 26)).frozen? ⟨w4.heap.size, oo, none⟩ = false := fz_new w4 #[(.slice A1x x.regs.length c1x), .int .i64 x.pc, (.slice A2x x.mem.length c2x), .int .i64 x.save, .bool x.lets, .bool x.waits, .int .i64 x.halt, (.slice A3x x.ins.length c3x), (.slice A4x x.outs.length c4x), .int .i64 x.count] 26 rfl
      generalize (w4.alloc (Obj.cells #[(.slice A1x x.regs.length c1x), .int .i64 x.pc, (.slice A2x x.mem.length c2x), .int .i64 x.save, .bool x.lets, .bool x.waits, .int .i64 x.halt, (.slice A3x x.ins.length c3x), (.slice A4x x.outs.length c4x), .int .i64 x.count] 26)) = w5 at *
      clear hBm_4 hFm_4 hb1_4 hb4_4
      have HOK := hide (mRun_okB (irqs := irqs) q0 hn4)
      rw [HX.out] at HOK
      have HPL := hide (fun h0 => mRun_place (irqs := irqs) q0 hn4 h0)
      rw [HX.out] at HPL
      have hlx := mRun_ok2 (irqs := irqs) q0 hn4
      rw [HX.out] at hlx
      obtain ⟨hx1, hx2, hx3, hx4⟩ := hlx
      clear q1 hn
      by_cases h0 : x.halt = 0
      · 
        have q2 : (x.halt == 0) = true := by simp [h0]
        clear h0
        have ym : w1.heap.size < w5.heap.size := by omega
        have xm0 := hBm_5 0 _ rfl
        have xm1 := hBm_5 1 _ rfl
        have xm2 := hBm_5 2 _ rfl
        have xm3 := hBm_5 3 _ rfl
        have xm4 := hBm_5 4 _ rfl
        have xm5 := hBm_5 5 _ rfl
        have xm6 := hBm_5 6 _ rfl
        have xm7 := hBm_5 7 _ rfl
        have xm8 := hBm_5 8 _ rfl
        have xm9 := hBm_5 9 _ rfl
        have fm := hFm_5
        have yx : w4.heap.size < w5.heap.size := by omega
        have xx0 := hBx_5 0 _ rfl
        have xx1 := hBx_5 1 _ rfl
        have xx2 := hBx_5 2 _ rfl
        have xx3 := hBx_5 3 _ rfl
        have xx4 := hBx_5 4 _ rfl
        have xx5 := hBx_5 5 _ rfl
        have xx6 := hBx_5 6 _ rfl
        have xx7 := hBx_5 7 _ rfl
        have xx8 := hBx_5 8 _ rfl
        have xx9 := hBx_5 9 _ rfl
        have fx := hFx_5
        go_wp2_with (go_at_call 30; refine (laOk_any _).mono ?_; rintro e w' ⟨rfl, rfl⟩)
        go_ret
        exact ⟨rfl, Ext.hold he5⟩
      · 
        have q2 : (x.halt == 0) = false := by simp [h0]
        have HS := hide (mRun_stands (irqs := irqs) HOK.out h0)
        clear h0
        have ym : w1.heap.size < w5.heap.size := by omega
        have xm0 := hBm_5 0 _ rfl
        have xm1 := hBm_5 1 _ rfl
        have xm2 := hBm_5 2 _ rfl
        have xm3 := hBm_5 3 _ rfl
        have xm4 := hBm_5 4 _ rfl
        have xm5 := hBm_5 5 _ rfl
        have xm6 := hBm_5 6 _ rfl
        have xm7 := hBm_5 7 _ rfl
        have xm8 := hBm_5 8 _ rfl
        have xm9 := hBm_5 9 _ rfl
        have fm := hFm_5
        have yx : w4.heap.size < w5.heap.size := by omega
        have xx0 := hBx_5 0 _ rfl
        have xx1 := hBx_5 1 _ rfl
        have xx2 := hBx_5 2 _ rfl
        have xx3 := hBx_5 3 _ rfl
        have xx4 := hBx_5 4 _ rfl
        have xx5 := hBx_5 5 _ rfl
        have xx6 := hBx_5 6 _ rfl
        have xx7 := hBx_5 7 _ rfl
        have xx8 := hBx_5 8 _ rfl
        have xx9 := hBx_5 9 _ rfl
        have fx := hFx_5
        go_upto_region 9 with fail
        clear xm0 xm1 xm2 xm3 xm4 xm5 xm6 xm7 xm8 xm9 ym
        clear fm
        clear xx0 xx1 xx2 xx3 xx4 xx5 xx6 xx7 xx8 xx9 yx
        clear fx
        clear q2
        go_cut [44] (fun v44_ wx => v44_ = .bool false ∧ Ext w wx ∧ Ext w1 wx ∧ Ext w4 wx ∧ w5.heap.size ≤ wx.heap.size ∧ Bx wx (w1.heap.size) [(.slice A1m m.regs.length c1m), .int .i64 m.pc, (.slice A2m m.mem.length c2m), .int .i64 m.save, .bool m.lets, .bool m.waits, .int .i64 m.halt, (.slice A3m m.ins.length c3m), (.slice A4m m.outs.length c4m), .int .i64 m.count] ∧ (∀ oo, wx.frozen? ⟨w1.heap.size, oo, none⟩ = false) ∧ Bx wx (w4.heap.size) [(.slice A1x x.regs.length c1x), .int .i64 x.pc, (.slice A2x x.mem.length c2x), .int .i64 x.save, .bool x.lets, .bool x.waits, .int .i64 x.halt, (.slice A3x x.ins.length c3x), (.slice A4x x.outs.length c4x), .int .i64 x.count] ∧ (∀ oo, wx.frozen? ⟨w4.heap.size, oo, none⟩ = false))
        case first =>
          by_cases h4 : x.halt = 4
          · 
            by_cases hm0 : m.halt = 0
            · 
              have q3 : (x.halt == 4) = true := by simp [h4]
              have q4 : (m.halt == 0) = true := by simp [hm0]
              have q5 : decide (x.pc < 64) = false := decide_eq_false (by have := HPL.out hm0 h4; omega)
              clear h4 hm0
              have ym : w1.heap.size < w5.heap.size := by omega
              have xm0 := hBm_5 0 _ rfl
              have xm1 := hBm_5 1 _ rfl
              have xm2 := hBm_5 2 _ rfl
              have xm3 := hBm_5 3 _ rfl
              have xm4 := hBm_5 4 _ rfl
              have xm5 := hBm_5 5 _ rfl
              have xm6 := hBm_5 6 _ rfl
              have xm7 := hBm_5 7 _ rfl
              have xm8 := hBm_5 8 _ rfl
              have xm9 := hBm_5 9 _ rfl
              have fm := hFm_5
              have yx : w4.heap.size < w5.heap.size := by omega
              have xx0 := hBx_5 0 _ rfl
              have xx1 := hBx_5 1 _ rfl
              have xx2 := hBx_5 2 _ rfl
              have xx3 := hBx_5 3 _ rfl
              have xx4 := hBx_5 4 _ rfl
              have xx5 := hBx_5 5 _ rfl
              have xx6 := hBx_5 6 _ rfl
              have xx7 := hBx_5 7 _ rfl
              have xx8 := hBx_5 8 _ rfl
              have xx9 := hBx_5 9 _ rfl
              have fx := hFx_5
              go_wp2_with fail
              clear xm0 xm1 xm2 xm3 xm4 xm5 xm6 xm7 xm8 xm9 ym
              clear fm
              clear xx0 xx1 xx2 xx3 xx4 xx5 xx6 xx7 xx8 xx9 yx
              clear fx
              go_meet
              exact ⟨rfl, Ext.hold he5, Ext.hold hb1_5, Ext.hold hb4_5, (by first | omega | (simp; done) | (simp; omega)), Bx.hold hBm_5, fz_hold hFm_5, Bx.hold hBx_5, fz_hold hFx_5⟩
            · 
              have q3 : (x.halt == 4) = true := by simp [h4]
              have q4 : (m.halt == 0) = false := by simp [hm0]
              clear h4 hm0
              have ym : w1.heap.size < w5.heap.size := by omega
              have xm0 := hBm_5 0 _ rfl
              have xm1 := hBm_5 1 _ rfl
              have xm2 := hBm_5 2 _ rfl
              have xm3 := hBm_5 3 _ rfl
              have xm4 := hBm_5 4 _ rfl
              have xm5 := hBm_5 5 _ rfl
              have xm6 := hBm_5 6 _ rfl
              have xm7 := hBm_5 7 _ rfl
              have xm8 := hBm_5 8 _ rfl
              have xm9 := hBm_5 9 _ rfl
              have fm := hFm_5
              have yx : w4.heap.size < w5.heap.size := by omega
              have xx0 := hBx_5 0 _ rfl
              have xx1 := hBx_5 1 _ rfl
              have xx2 := hBx_5 2 _ rfl
              have xx3 := hBx_5 3 _ rfl
              have xx4 := hBx_5 4 _ rfl
              have xx5 := hBx_5 5 _ rfl
              have xx6 := hBx_5 6 _ rfl
              have xx7 := hBx_5 7 _ rfl
              have xx8 := hBx_5 8 _ rfl
              have xx9 := hBx_5 9 _ rfl
              have fx := hFx_5
              go_wp2_with fail
              clear xm0 xm1 xm2 xm3 xm4 xm5 xm6 xm7 xm8 xm9 ym
              clear fm
              clear xx0 xx1 xx2 xx3 xx4 xx5 xx6 xx7 xx8 xx9 yx
              clear fx
              go_meet
              exact ⟨rfl, Ext.hold he5, Ext.hold hb1_5, Ext.hold hb4_5, (by first | omega | (simp; done) | (simp; omega)), Bx.hold hBm_5, fz_hold hFm_5, Bx.hold hBx_5, fz_hold hFx_5⟩
          · 
            have q3 : (x.halt == 4) = false := by simp [h4]
            clear h4
            have ym : w1.heap.size < w5.heap.size := by omega
            have xm0 := hBm_5 0 _ rfl
            have xm1 := hBm_5 1 _ rfl
            have xm2 := hBm_5 2 _ rfl
            have xm3 := hBm_5 3 _ rfl
            have xm4 := hBm_5 4 _ rfl
            have xm5 := hBm_5 5 _ rfl
            have xm6 := hBm_5 6 _ rfl
            have xm7 := hBm_5 7 _ rfl
            have xm8 := hBm_5 8 _ rfl
            have xm9 := hBm_5 9 _ rfl
            have fm := hFm_5
            have yx : w4.heap.size < w5.heap.size := by omega
            have xx0 := hBx_5 0 _ rfl
            have xx1 := hBx_5 1 _ rfl
            have xx2 := hBx_5 2 _ rfl
            have xx3 := hBx_5 3 _ rfl
            have xx4 := hBx_5 4 _ rfl
            have xx5 := hBx_5 5 _ rfl
            have xx6 := hBx_5 6 _ rfl
            have xx7 := hBx_5 7 _ rfl
            have xx8 := hBx_5 8 _ rfl
            have xx9 := hBx_5 9 _ rfl
            have fx := hFx_5
            go_wp2_with fail
            clear xm0 xm1 xm2 xm3 xm4 xm5 xm6 xm7 xm8 xm9 ym
            clear fm
            clear xx0 xx1 xx2 xx3 xx4 xx5 xx6 xx7 xx8 xx9 yx
            clear fx
            go_meet
            exact ⟨rfl, Ext.hold he5, Ext.hold hb1_5, Ext.hold hb4_5, (by first | omega | (simp; done) | (simp; omega)), Bx.hold hBm_5, fz_hold hFm_5, Bx.hold hBx_5, fz_hold hFx_5⟩
        case rest =>
          obtain ⟨rfl, he6, hb1_6, hb4_6, hs6, hBm_6, hFm_6, hBx_6, hFx_6⟩ := hcut
          obtain ⟨w6, hwc⟩ : ∃ w6 : World, w6 = wc := ⟨_, rfl⟩
          subst hwc
          clear hBm_5 hFm_5 hBx_5 hFx_5 hb1_5 hb4_5
          have qxx : decide (x = x) = true := decide_eq_true rfl
          have ym : w1.heap.size < w6.heap.size := by omega
          have xm0 := hBm_6 0 _ rfl
          have xm1 := hBm_6 1 _ rfl
          have xm2 := hBm_6 2 _ rfl
          have xm3 := hBm_6 3 _ rfl
          have xm4 := hBm_6 4 _ rfl
          have xm5 := hBm_6 5 _ rfl
          have xm6 := hBm_6 6 _ rfl
          have xm7 := hBm_6 7 _ rfl
          have xm8 := hBm_6 8 _ rfl
          have xm9 := hBm_6 9 _ rfl
          have fm := hFm_6
          have yx : w4.heap.size < w6.heap.size := by omega
          have xx0 := hBx_6 0 _ rfl
          have xx1 := hBx_6 1 _ rfl
          have xx2 := hBx_6 2 _ rfl
          have xx3 := hBx_6 3 _ rfl
          have xx4 := hBx_6 4 _ rfl
          have xx5 := hBx_6 5 _ rfl
          have xx6 := hBx_6 6 _ rfl
          have xx7 := hBx_6 7 _ rfl
          have xx8 := hBx_6 8 _ rfl
          have xx9 := hBx_6 9 _ rfl
          have fx := hFx_6
          go_upto_region 11 with fail
          have hS : ∀ w', Ext w6 w' → ∀ bb oo, bb < w6.heap.size → w'.cell? ⟨bb, oo, none⟩ = w6.cell? ⟨bb, oo, none⟩ := fun w' hx bb oo hb => hx.cell hb
          refine wp_region_plan (fun w' => Ext w6 w') 4 (.float 0 (.float 1 (.float 3 (.chain 2 (.tail 4))))) (by kernel_rfl) (by kernel_rfl) (Ext.refl _).drew ?_
          iterate 3 ((refine Plan.float_step (v := ?_) rfl (by rfl) (fun _ _ _ h => h) (fun w' hSw => ?_) ?_; rotate_left; · (go_simp; try with_reducible rfl)); (try simp only [Act.put, List.setIfInBounds_toArray, List.set_cons_zero, List.set_cons_succ]))
          refine Plan.chain_step rfl (fun K hK => ?_)
          go_simp
          refine (implRun_r x irqs 7 _ _ _ _ _ _ (tx1.ext (Ext.hold hb4_6)) (tx2.ext (Ext.hold hb4_6)) (tx3.ext (Ext.hold hb4_6)) (tx4.ext (Ext.hold hb4_6)) (ti.ext (Ext.hold hb1_6)) (by omega) (by omega) (by omega) (by omega) (by omega) lf (hF.ext (Ext.hold he6))).mono ?_
          intro e w7 hr
          rw [HS.out] at hr
          unfold MRet at hr
          obtain ⟨A1y, A2y, A3y, A4y, c1y, c2y, c3y, c4y, rfl, ty1, ty2, ty3, ty4, hy⟩ := hr
          refine hK.out _ _ (Ext.trans Ext.auto hy) ?_
          clear hK
          (try simp only [Act.put, List.setIfInBounds_toArray, List.set_cons_zero, List.set_cons_succ])
          have hb6_6 : Ext w6 w6 := Ext.refl _
          have hb1_7 : Ext w1 w7 := Ext.trans (Ext.hold hb1_6) hy
          have hb4_7 : Ext w4 w7 := Ext.trans (Ext.hold hb4_6) hy
          have hb6_7 : Ext w6 w7 := Ext.trans (Ext.hold hb6_6) hy
          have hs7 := hy.size
          try simp at hs7
          have he7 : Ext w w7 := Ext.trans (Ext.hold he6) hy
          have hBm_7 : Bx w7 (w1.heap.size) [(.slice A1m m.regs.length c1m), .int .i64 m.pc, (.slice A2m m.mem.length c2m), .int .i64 m.save, .bool m.lets, .bool m.waits, .int .i64 m.halt, (.slice A3m m.ins.length c3m), (.slice A4m m.outs.length c4m), .int .i64 m.count] := hy.bx (Bx.hold hBm_6) (by first | omega | (simp; done) | (simp; omega))
          have hFm_7 : ∀ oo, w7.frozen? ⟨w1.heap.size, oo, none⟩ = false := fun oo => (hy.frozen (by first | omega | (simp; done) | (simp; omega))).trans ((fz_hold hFm_6) oo)
          have hBx_7 : Bx w7 (w4.heap.size) [(.slice A1x x.regs.length c1x), .int .i64 x.pc, (.slice A2x x.mem.length c2x), .int .i64 x.save, .bool x.lets, .bool x.waits, .int .i64 x.halt, (.slice A3x x.ins.length c3x), (.slice A4x x.outs.length c4x), .int .i64 x.count] := hy.bx (Bx.hold hBx_6) (by first | omega | (simp; done) | (simp; omega))
          have hFx_7 : ∀ oo, w7.frozen? ⟨w4.heap.size, oo, none⟩ = false := fun oo => (hy.frozen (by first | omega | (simp; done) | (simp; omega))).trans ((fz_hold hFx_6) oo)
          try clear hBm_6 hFm_6 hBx_6 hFx_6
          clear hy hb1_6 hb4_6 hb6_6
          have hb7_7 : Ext w7 w7 := Ext.refl _
          refine Plan.tail_step ?_
          simp only [List.drop_succ_cons, List.drop_zero]
          clear hS
          clear xm0 xm1 xm2 xm3 xm4 xm5 xm6 xm7 xm8 xm9 ym
          clear fm
          clear xx0 xx1 xx2 xx3 xx4 xx5 xx6 xx7 xx8 xx9 yx
          clear fx
          have ym : w1.heap.size < w7.heap.size := by omega
          have xm0 := hBm_7 0 _ rfl
          have xm1 := hBm_7 1 _ rfl
          have xm2 := hBm_7 2 _ rfl
          have xm3 := hBm_7 3 _ rfl
          have xm4 := hBm_7 4 _ rfl
          have xm5 := hBm_7 5 _ rfl
          have xm6 := hBm_7 6 _ rfl
          have xm7 := hBm_7 7 _ rfl
          have xm8 := hBm_7 8 _ rfl
          have xm9 := hBm_7 9 _ rfl
          have fm := hFm_7
          have yx : w4.heap.size < w7.heap.size := by omega
          have xx0 := hBx_7 0 _ rfl
          have xx1 := hBx_7 1 _ rfl
          have xx2 := hBx_7 2 _ rfl
          have xx3 := hBx_7 3 _ rfl
          have xx4 := hBx_7 4 _ rfl
          have xx5 := hBx_7 5 _ rfl
          have xx6 := hBx_7 6 _ rfl
          have xx7 := hBx_7 7 _ rfl
          have xx8 := hBx_7 8 _ rfl
          have xx9 := hBx_7 9 _ rfl
          have fx := hFx_7
          go_wp2_with fail
          refine (laMach_any x x _ _ _ _ _ _ _ _ _ (ty1.ext (Ext.hold hb7_7)) (ty2.ext (Ext.hold hb7_7)) (ty3.ext (Ext.hold hb7_7)) (ty4.ext (Ext.hold hb7_7)) (tx1.ext (Ext.hold hb4_7)) (tx2.ext (Ext.hold hb4_7)) (tx3.ext (Ext.hold hb4_7)) (tx4.ext (Ext.hold hb4_7))).mono ?_
          rintro e w8 ⟨rfl, hy⟩
          simp only [qxx]
          clear xm0 xm1 xm2 xm3 xm4 xm5 xm6 xm7 xm8 xm9 ym
          clear fm
          clear xx0 xx1 xx2 xx3 xx4 xx5 xx6 xx7 xx8 xx9 yx
          clear fx
          have hb1_8 : Ext w1 w8 := Ext.trans (Ext.hold hb1_7) hy
          have hb4_8 : Ext w4 w8 := Ext.trans (Ext.hold hb4_7) hy
          have hb7_8 : Ext w7 w8 := Ext.trans (Ext.hold hb7_7) hy
          have hs8 := hy.size
          try simp at hs8
          have he8 : Ext w w8 := Ext.trans (Ext.hold he7) hy
          have hBm_8 : Bx w8 (w1.heap.size) [(.slice A1m m.regs.length c1m), .int .i64 m.pc, (.slice A2m m.mem.length c2m), .int .i64 m.save, .bool m.lets, .bool m.waits, .int .i64 m.halt, (.slice A3m m.ins.length c3m), (.slice A4m m.outs.length c4m), .int .i64 m.count] := hy.bx (Bx.hold hBm_7) (by first | omega | (simp; done) | (simp; omega))
          have hFm_8 : ∀ oo, w8.frozen? ⟨w1.heap.size, oo, none⟩ = false := fun oo => (hy.frozen (by first | omega | (simp; done) | (simp; omega))).trans ((fz_hold hFm_7) oo)
          have hBx_8 : Bx w8 (w4.heap.size) [(.slice A1x x.regs.length c1x), .int .i64 x.pc, (.slice A2x x.mem.length c2x), .int .i64 x.save, .bool x.lets, .bool x.waits, .int .i64 x.halt, (.slice A3x x.ins.length c3x), (.slice A4x x.outs.length c4x), .int .i64 x.count] := hy.bx (Bx.hold hBx_7) (by first | omega | (simp; done) | (simp; omega))
          have hFx_8 : ∀ oo, w8.frozen? ⟨w4.heap.size, oo, none⟩ = false := fun oo => (hy.frozen (by first | omega | (simp; done) | (simp; omega))).trans ((fz_hold hFx_7) oo)
          try clear hBm_7 hFm_7 hBx_7 hFx_7
          clear hy hb1_7 hb4_7 hb7_7
          have ym : w1.heap.size < w8.heap.size := by omega
          have xm0 := hBm_8 0 _ rfl
          have xm1 := hBm_8 1 _ rfl
          have xm2 := hBm_8 2 _ rfl
          have xm3 := hBm_8 3 _ rfl
          have xm4 := hBm_8 4 _ rfl
          have xm5 := hBm_8 5 _ rfl
          have xm6 := hBm_8 6 _ rfl
          have xm7 := hBm_8 7 _ rfl
          have xm8 := hBm_8 8 _ rfl
          have xm9 := hBm_8 9 _ rfl
          have fm := hFm_8
          have yx : w4.heap.size < w8.heap.size := by omega
          have xx0 := hBx_8 0 _ rfl
          have xx1 := hBx_8 1 _ rfl
          have xx2 := hBx_8 2 _ rfl
          have xx3 := hBx_8 3 _ rfl
          have xx4 := hBx_8 4 _ rfl
          have xx5 := hBx_8 5 _ rfl
          have xx6 := hBx_8 6 _ rfl
          have xx7 := hBx_8 7 _ rfl
          have xx8 := hBx_8 8 _ rfl
          have xx9 := hBx_8 9 _ rfl
          have fx := hFx_8
          go_wp2_with fail
          go_ret
          exact ⟨rfl, Ext.hold he8⟩

end Go.Proofs.YtabldlhigjhkeaaDoor
