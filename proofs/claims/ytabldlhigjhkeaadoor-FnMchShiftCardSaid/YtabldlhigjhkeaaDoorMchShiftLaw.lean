/-
  The law FnMchShift returns true for every input.
-/
import Derived.Test.YtabldlhigjhkeaaDoorLawStep
import Derived.Test.YtabldlhigjhkeaaDoorLawPure
import Derived.Test.YtabldlhigjhkeaaDoorRegLib
import Derived.Deep.DeepCutAuto
namespace Go.Proofs.YtabldlhigjhkeaaDoor
open Go.RowKit

set_option linter.unusedVariables false
set_option linter.unusedSimpArgs false
set_option maxRecDepth 100000

set_option maxHeartbeats 64000000 in
theorem lawMchShift_any (code : List UInt8) (v : Value) (w : World) (h : Sl w (Old w) v code) (lf : Nat) (hF : Forms lf w) : Calls Tryd.prog 7 #[v] w fun e w' => e = .returned (.bool true) ∧ Ext w w' := by
  obtain ⟨Ac, cc, rfl, -, -⟩ := h.form
  by_cases hbig : 1048576 < code.length
  · have q1 : decide (1048576 < (code.length : Int)) = true := decide_eq_true (by omega)
    go_enter Tryd.func7, Tryd.ntmps7
    go_wp2
    go_ret
    exact ⟨rfl, Ext.refl _⟩
  have q1 : decide (1048576 < (code.length : Int)) = false := decide_eq_false (by omega)
  go_enter Tryd.func7, Tryd.ntmps7
  go_wp2_with fail
  refine (drawMchStep_any code _ _ h).mono ?_
  intro e w1 hd
  unfold DStep at hd
  obtain ⟨m, A1m, A2m, A3m, A4m, c1m, c2m, c3m, c4m, b, rfl, ⟨hl1, hl2, hl3, hl4⟩, tm1, tm2, tm3, tm4, he1⟩ := hd
  have hs1 := he1.size
  have hb1_1 : Ext w1 w1 := Ext.refl _
  have HIW := hide True.intro
  clear q1 hbig
  go_upto_region 4 with fail
  have he2 : Ext w (w1.alloc (Obj.cells #[(.slice A1m m.regs.length c1m), .int .i64 m.pc, (.slice A2m m.mem.length c2m), .int .i64 m.save, .bool m.lets, .bool m.waits, .int .i64 m.halt, (.slice A3m m.ins.length c3m), (.slice A4m m.outs.length c4m), .int .i64 m.count] 26)) := Ext.hold he1
  have hs2 : w1.heap.size + 1 ≤ ((w1.alloc (Obj.cells #[(.slice A1m m.regs.length c1m), .int .i64 m.pc, (.slice A2m m.mem.length c2m), .int .i64 m.save, .bool m.lets, .bool m.waits, .int .i64 m.halt, (.slice A3m m.ins.length c3m), (.slice A4m m.outs.length c4m), .int .i64 m.count] 26))).heap.size := by simp
  have hb1_2 : Ext w1 (w1.alloc (Obj.cells #[(.slice A1m m.regs.length c1m), .int .i64 m.pc, (.slice A2m m.mem.length c2m), .int .i64 m.save, .bool m.lets, .bool m.waits, .int .i64 m.halt, (.slice A3m m.ins.length c3m), (.slice A4m m.outs.length c4m), .int .i64 m.count] 26)) := Ext.hold hb1_1
  have hBm_2 : Bx (w1.alloc (Obj.cells #[(.slice A1m m.regs.length c1m), .int .i64 m.pc, (.slice A2m m.mem.length c2m), .int .i64 m.save, .bool m.lets, .bool m.waits, .int .i64 m.halt, (.slice A3m m.ins.length c3m), (.slice A4m m.outs.length c4m), .int .i64 m.count] 26)) (w1.heap.size) [(.slice A1m m.regs.length c1m), .int .i64 m.pc, (.slice A2m m.mem.length c2m), .int .i64 m.save, .bool m.lets, .bool m.waits, .int .i64 m.halt, (.slice A3m m.ins.length c3m), (.slice A4m m.outs.length c4m), .int .i64 m.count] := Bx.new w1 #[(.slice A1m m.regs.length c1m), .int .i64 m.pc, (.slice A2m m.mem.length c2m), .int .i64 m.save, .bool m.lets, .bool m.waits, .int .i64 m.halt, (.slice A3m m.ins.length c3m), (.slice A4m m.outs.length c4m), .int .i64 m.count] 26
  have hFm_2 : ∀ oo, (w1.alloc (Obj.cells #[(.slice A1m m.regs.length c1m), .int .i64 m.pc, (.slice A2m m.mem.length c2m), .int .i64 m.save, .bool m.lets, .bool m.waits, .int .i64 m.halt, (.slice A3m m.ins.length c3m), (.slice A4m m.outs.length c4m), .int .i64 m.count] 26)).frozen? ⟨w1.heap.size, oo, none⟩ = false := fz_new w1 #[(.slice A1m m.regs.length c1m), .int .i64 m.pc, (.slice A2m m.mem.length c2m), .int .i64 m.save, .bool m.lets, .bool m.waits, .int .i64 m.halt, (.slice A3m m.ins.length c3m), (.slice A4m m.outs.length c4m), .int .i64 m.count] 26 rfl
  generalize (w1.alloc (Obj.cells #[(.slice A1m m.regs.length c1m), .int .i64 m.pc, (.slice A2m m.mem.length c2m), .int .i64 m.save, .bool m.lets, .bool m.waits, .int .i64 m.halt, (.slice A3m m.ins.length c3m), (.slice A4m m.outs.length c4m), .int .i64 m.count] 26)) = w2 at *
  clear hb1_1
  obtain ⟨i0, hi, hz0, hz1, hz2⟩ := info_parts infInt
  have HI := hide hi
  have HZ0 := hide hz0
  have HZ1 := hide hz1
  have HZ2 := hide hz2
  clear hi hz0 hz1 hz2
  obtain ⟨i1, hi, hz0, hz1, hz2⟩ := info_parts infInsIns
  have JI := hide hi
  have JZ0 := hide hz0
  have JZ1 := hide hz1
  have JZ2 := hide hz2
  clear hi hz0 hz1 hz2
  cases q0 : mchOkB m
  · 
    have ym : w1.heap.size < w2.heap.size := by omega
    have xm0 := hBm_2 0 _ rfl
    have xm1 := hBm_2 1 _ rfl
    have xm2 := hBm_2 2 _ rfl
    have xm3 := hBm_2 3 _ rfl
    have xm4 := hBm_2 4 _ rfl
    have xm5 := hBm_2 5 _ rfl
    have xm6 := hBm_2 6 _ rfl
    have xm7 := hBm_2 7 _ rfl
    have xm8 := hBm_2 8 _ rfl
    have xm9 := hBm_2 9 _ rfl
    have fm := hFm_2
    go_wp2_with fail
    refine (specMchOk_any m _ _ _ _ _ (tm1.ext (Ext.hold hb1_2)) (tm2.ext (Ext.hold hb1_2)) (tm3.ext (Ext.hold hb1_2)) (tm4.ext (Ext.hold hb1_2))).mono ?_
    rintro e w3 ⟨rfl, hy⟩
    simp only [q0]
    clear xm0 xm1 xm2 xm3 xm4 xm5 xm6 xm7 xm8 xm9 ym
    clear fm
    have hb1_3 : Ext w1 w3 := Ext.trans (Ext.hold hb1_2) hy
    have hs3 := hy.size
    try simp at hs3
    have he3 : Ext w w3 := Ext.trans (Ext.hold he2) hy
    have hBm_3 : Bx w3 (w1.heap.size) [(.slice A1m m.regs.length c1m), .int .i64 m.pc, (.slice A2m m.mem.length c2m), .int .i64 m.save, .bool m.lets, .bool m.waits, .int .i64 m.halt, (.slice A3m m.ins.length c3m), (.slice A4m m.outs.length c4m), .int .i64 m.count] := hy.bx (Bx.hold hBm_2) (by first | omega | (simp; done) | (simp; omega))
    have hFm_3 : ∀ oo, w3.frozen? ⟨w1.heap.size, oo, none⟩ = false := fun oo => (hy.frozen (by first | omega | (simp; done) | (simp; omega))).trans ((fz_hold hFm_2) oo)
    try clear hBm_2 hFm_2
    clear hy hb1_2
    have ym : w1.heap.size < w3.heap.size := by omega
    have xm0 := hBm_3 0 _ rfl
    have xm1 := hBm_3 1 _ rfl
    have xm2 := hBm_3 2 _ rfl
    have xm3 := hBm_3 3 _ rfl
    have xm4 := hBm_3 4 _ rfl
    have xm5 := hBm_3 5 _ rfl
    have xm6 := hBm_3 6 _ rfl
    have xm7 := hBm_3 7 _ rfl
    have xm8 := hBm_3 8 _ rfl
    have xm9 := hBm_3 9 _ rfl
    have fm := hFm_3
    go_wp2_with (go_at_call 30; refine (laOk_any _).mono ?_; rintro e w' ⟨rfl, rfl⟩)
    go_ret
    exact ⟨rfl, Ext.hold he3⟩
  · 
    have ym : w1.heap.size < w2.heap.size := by omega
    have xm0 := hBm_2 0 _ rfl
    have xm1 := hBm_2 1 _ rfl
    have xm2 := hBm_2 2 _ rfl
    have xm3 := hBm_2 3 _ rfl
    have xm4 := hBm_2 4 _ rfl
    have xm5 := hBm_2 5 _ rfl
    have xm6 := hBm_2 6 _ rfl
    have xm7 := hBm_2 7 _ rfl
    have xm8 := hBm_2 8 _ rfl
    have xm9 := hBm_2 9 _ rfl
    have fm := hFm_2
    go_wp2_with fail
    refine (specMchOk_any m _ _ _ _ _ (tm1.ext (Ext.hold hb1_2)) (tm2.ext (Ext.hold hb1_2)) (tm3.ext (Ext.hold hb1_2)) (tm4.ext (Ext.hold hb1_2))).mono ?_
    rintro e w3 ⟨rfl, hy⟩
    simp only [q0]
    clear xm0 xm1 xm2 xm3 xm4 xm5 xm6 xm7 xm8 xm9 ym
    clear fm
    have hb1_3 : Ext w1 w3 := Ext.trans (Ext.hold hb1_2) hy
    have hs3 := hy.size
    try simp at hs3
    have he3 : Ext w w3 := Ext.trans (Ext.hold he2) hy
    have hBm_3 : Bx w3 (w1.heap.size) [(.slice A1m m.regs.length c1m), .int .i64 m.pc, (.slice A2m m.mem.length c2m), .int .i64 m.save, .bool m.lets, .bool m.waits, .int .i64 m.halt, (.slice A3m m.ins.length c3m), (.slice A4m m.outs.length c4m), .int .i64 m.count] := hy.bx (Bx.hold hBm_2) (by first | omega | (simp; done) | (simp; omega))
    have hFm_3 : ∀ oo, w3.frozen? ⟨w1.heap.size, oo, none⟩ = false := fun oo => (hy.frozen (by first | omega | (simp; done) | (simp; omega))).trans ((fz_hold hFm_2) oo)
    try clear hBm_2 hFm_2
    clear hy hb1_2
    have hk := mOk_iff.1 q0
    have HK := hide hk
    have hc0 := hk.c0
    have hc1 := hk.c1
    clear hk
    by_cases h1 : 999980 < m.count
    · 
      have q1 : decide (999980 < m.count) = true := decide_eq_true h1
      have ym : w1.heap.size < w3.heap.size := by omega
      have xm0 := hBm_3 0 _ rfl
      have xm1 := hBm_3 1 _ rfl
      have xm2 := hBm_3 2 _ rfl
      have xm3 := hBm_3 3 _ rfl
      have xm4 := hBm_3 4 _ rfl
      have xm5 := hBm_3 5 _ rfl
      have xm6 := hBm_3 6 _ rfl
      have xm7 := hBm_3 7 _ rfl
      have xm8 := hBm_3 8 _ rfl
      have xm9 := hBm_3 9 _ rfl
      have fm := hFm_3
      go_wp2_with (go_at_call 30; refine (laOk_any _).mono ?_; rintro e w' ⟨rfl, rfl⟩)
      go_ret
      exact ⟨rfl, Ext.hold he3⟩
    · 
      have q1 : decide (999980 < m.count) = false := decide_eq_false h1
      have hcl : m.count ≤ 999980 := by omega
      have hr1l : 1 < m.regs.length := by have := HK.out.rl; omega
      have hr3l : 3 < m.regs.length := by have := HK.out.rl; omega
      have hml0 : 0 < m.mem.length := by have := HK.out.ml; omega
      have hw1 := HK.out.rw_ m.regs[1] (List.getElem_mem hr1l)
      have hw3 := HK.out.rw_ m.regs[3] (List.getElem_mem hr3l)
      obtain ⟨hw10, hw11⟩ := hw1
      obtain ⟨hw30, hw31⟩ := hw3
      have hm3 : m.reg 3 = m.regs[3] := by unfold MchMach.reg; rw [show (3 : Int).toNat = 3 from rfl, List.getElem?_eq_getElem hr3l]; rfl
      have HM3 := hide hm3
      obtain ⟨br, or_, rfl, hbr, hkr, e1⟩ := at_Int (tm1.ext (show Ext w1 w3 from Ext.hold hb1_3)) hr1l
      have hbrl : br < w3.heap.size := hbr
      obtain ⟨br2, or2, hre, hbr2, hkr2, e3⟩ := at_Int (tm1.ext (show Ext w1 w3 from Ext.hold hb1_3)) hr3l
      injection hre with hre
      injection hre with hre1 hre2
      subst hre1 hre2
      have z1 : (1 : Int) < (m.regs.length : Int) := by omega
      have z3 : (3 : Int) < (m.regs.length : Int) := by omega
      clear h1 hm3
      have hb3_3 : Ext w3 w3 := Ext.refl _
      have ym : w1.heap.size < w3.heap.size := by omega
      have xm0 := hBm_3 0 _ rfl
      have xm1 := hBm_3 1 _ rfl
      have xm2 := hBm_3 2 _ rfl
      have xm3 := hBm_3 3 _ rfl
      have xm4 := hBm_3 4 _ rfl
      have xm5 := hBm_3 5 _ rfl
      have xm6 := hBm_3 6 _ rfl
      have xm7 := hBm_3 7 _ rfl
      have xm8 := hBm_3 8 _ rfl
      have xm9 := hBm_3 9 _ rfl
      have fm := hFm_3
      go_upto_region 7 with fail
      clear xm0 xm1 xm2 xm3 xm4 xm5 xm6 xm7 xm8 xm9 ym
      clear fm
      have hk0 : 0 ≤ m.regs[1] % 16 := by omega
      have hk1 : m.regs[1] % 16 < 16 := by omega
      clear e1 q1
      generalize m.regs[1] % 16 = k at *
      have ym : w1.heap.size < w3.heap.size := by omega
      have xm0 := hBm_3 0 _ rfl
      have xm1 := hBm_3 1 _ rfl
      have xm2 := hBm_3 2 _ rfl
      have xm3 := hBm_3 3 _ rfl
      have xm4 := hBm_3 4 _ rfl
      have xm5 := hBm_3 5 _ rfl
      have xm6 := hBm_3 6 _ rfl
      have xm7 := hBm_3 7 _ rfl
      have xm8 := hBm_3 8 _ rfl
      have xm9 := hBm_3 9 _ rfl
      have fm := hFm_3
      go_upto_region 8 with fail
      clear xm0 xm1 xm2 xm3 xm4 xm5 xm6 xm7 xm8 xm9 ym
      clear fm
      have he4 : Ext w (w3.alloc (Obj.cells #[(.slice (some ⟨br, or_, none⟩) m.regs.length c1m), .int .i64 m.pc, (.slice A2m m.mem.length c2m), .int .i64 m.save, .bool m.lets, .bool m.waits, .int .i64 m.halt, (.slice A3m m.ins.length c3m), (.slice A4m m.outs.length c4m), .int .i64 m.count] 26)) := Ext.hold he3
      have hs4 : w3.heap.size + 1 ≤ ((w3.alloc (Obj.cells #[(.slice (some ⟨br, or_, none⟩) m.regs.length c1m), .int .i64 m.pc, (.slice A2m m.mem.length c2m), .int .i64 m.save, .bool m.lets, .bool m.waits, .int .i64 m.halt, (.slice A3m m.ins.length c3m), (.slice A4m m.outs.length c4m), .int .i64 m.count] 26))).heap.size := by simp
      have hb1_4 : Ext w1 (w3.alloc (Obj.cells #[(.slice (some ⟨br, or_, none⟩) m.regs.length c1m), .int .i64 m.pc, (.slice A2m m.mem.length c2m), .int .i64 m.save, .bool m.lets, .bool m.waits, .int .i64 m.halt, (.slice A3m m.ins.length c3m), (.slice A4m m.outs.length c4m), .int .i64 m.count] 26)) := Ext.hold hb1_3
      have hb3_4 : Ext w3 (w3.alloc (Obj.cells #[(.slice (some ⟨br, or_, none⟩) m.regs.length c1m), .int .i64 m.pc, (.slice A2m m.mem.length c2m), .int .i64 m.save, .bool m.lets, .bool m.waits, .int .i64 m.halt, (.slice A3m m.ins.length c3m), (.slice A4m m.outs.length c4m), .int .i64 m.count] 26)) := Ext.hold hb3_3
      have hBm_4 : Bx (w3.alloc (Obj.cells #[(.slice (some ⟨br, or_, none⟩) m.regs.length c1m), .int .i64 m.pc, (.slice A2m m.mem.length c2m), .int .i64 m.save, .bool m.lets, .bool m.waits, .int .i64 m.halt, (.slice A3m m.ins.length c3m), (.slice A4m m.outs.length c4m), .int .i64 m.count] 26)) (w1.heap.size) [(.slice (some ⟨br, or_, none⟩) m.regs.length c1m), .int .i64 m.pc, (.slice A2m m.mem.length c2m), .int .i64 m.save, .bool m.lets, .bool m.waits, .int .i64 m.halt, (.slice A3m m.ins.length c3m), (.slice A4m m.outs.length c4m), .int .i64 m.count] := Bx.hold hBm_3
      have hFm_4 : ∀ oo, (w3.alloc (Obj.cells #[(.slice (some ⟨br, or_, none⟩) m.regs.length c1m), .int .i64 m.pc, (.slice A2m m.mem.length c2m), .int .i64 m.save, .bool m.lets, .bool m.waits, .int .i64 m.halt, (.slice A3m m.ins.length c3m), (.slice A4m m.outs.length c4m), .int .i64 m.count] 26)).frozen? ⟨w1.heap.size, oo, none⟩ = false := fz_hold hFm_3
      have hBx_4 : Bx (w3.alloc (Obj.cells #[(.slice (some ⟨br, or_, none⟩) m.regs.length c1m), .int .i64 m.pc, (.slice A2m m.mem.length c2m), .int .i64 m.save, .bool m.lets, .bool m.waits, .int .i64 m.halt, (.slice A3m m.ins.length c3m), (.slice A4m m.outs.length c4m), .int .i64 m.count] 26)) (w3.heap.size) [(.slice (some ⟨br, or_, none⟩) m.regs.length c1m), .int .i64 m.pc, (.slice A2m m.mem.length c2m), .int .i64 m.save, .bool m.lets, .bool m.waits, .int .i64 m.halt, (.slice A3m m.ins.length c3m), (.slice A4m m.outs.length c4m), .int .i64 m.count] := Bx.new w3 #[(.slice (some ⟨br, or_, none⟩) m.regs.length c1m), .int .i64 m.pc, (.slice A2m m.mem.length c2m), .int .i64 m.save, .bool m.lets, .bool m.waits, .int .i64 m.halt, (.slice A3m m.ins.length c3m), (.slice A4m m.outs.length c4m), .int .i64 m.count] 26
      have hFx_4 : ∀ oo, (w3.alloc (Obj.cells #[(.slice (some ⟨br, or_, none⟩) m.regs.length c1m), .int .i64 m.pc, (.slice A2m m.mem.length c2m), .int .i64 m.save, .bool m.lets, .bool m.waits, .int .i64 m.halt, (.slice A3m m.ins.length c3m), (.slice A4m m.outs.length c4m), .int .i64 m.count] 26)).frozen? ⟨w3.heap.size, oo, none⟩ = false := fz_new w3 #[(.slice (some ⟨br, or_, none⟩) m.regs.length c1m), .int .i64 m.pc, (.slice A2m m.mem.length c2m), .int .i64 m.save, .bool m.lets, .bool m.waits, .int .i64 m.halt, (.slice A3m m.ins.length c3m), (.slice A4m m.outs.length c4m), .int .i64 m.count] 26 rfl
      generalize (w3.alloc (Obj.cells #[(.slice (some ⟨br, or_, none⟩) m.regs.length c1m), .int .i64 m.pc, (.slice A2m m.mem.length c2m), .int .i64 m.save, .bool m.lets, .bool m.waits, .int .i64 m.halt, (.slice A3m m.ins.length c3m), (.slice A4m m.outs.length c4m), .int .i64 m.count] 26)) = w4 at *
      clear hBm_3 hFm_3 hb1_3 hb3_3
      have ym : w1.heap.size < w4.heap.size := by omega
      have xm0 := hBm_4 0 _ rfl
      have xm1 := hBm_4 1 _ rfl
      have xm2 := hBm_4 2 _ rfl
      have xm3 := hBm_4 3 _ rfl
      have xm4 := hBm_4 4 _ rfl
      have xm5 := hBm_4 5 _ rfl
      have xm6 := hBm_4 6 _ rfl
      have xm7 := hBm_4 7 _ rfl
      have xm8 := hBm_4 8 _ rfl
      have xm9 := hBm_4 9 _ rfl
      have fm := hFm_4
      have yx : w3.heap.size < w4.heap.size := by omega
      have xx0 := hBx_4 0 _ rfl
      have xx1 := hBx_4 1 _ rfl
      have xx2 := hBx_4 2 _ rfl
      have xx3 := hBx_4 3 _ rfl
      have xx4 := hBx_4 4 _ rfl
      have xx5 := hBx_4 5 _ rfl
      have xx6 := hBx_4 6 _ rfl
      have xx7 := hBx_4 7 _ rfl
      have xx8 := hBx_4 8 _ rfl
      have xx9 := hBx_4 9 _ rfl
      have fx := hFx_4
      go_upto_region 9 with fail
      clear xm0 xm1 xm2 xm3 xm4 xm5 xm6 xm7 xm8 xm9 ym
      clear fm
      clear xx0 xx1 xx2 xx3 xx4 xx5 xx6 xx7 xx8 xx9 yx
      clear fx
      have he5 : Ext w (w4.setCell ⟨w3.heap.size, 6, none⟩ (.int .i64 0)) := Ext.hold he4
      have hs5 : w4.heap.size + 0 ≤ ((w4.setCell ⟨w3.heap.size, 6, none⟩ (.int .i64 0))).heap.size := by simp
      have hb1_5 : Ext w1 (w4.setCell ⟨w3.heap.size, 6, none⟩ (.int .i64 0)) := Ext.hold hb1_4
      have hb3_5 : Ext w3 (w4.setCell ⟨w3.heap.size, 6, none⟩ (.int .i64 0)) := Ext.hold hb3_4
      have hBm_5 : Bx (w4.setCell ⟨w3.heap.size, 6, none⟩ (.int .i64 0)) (w1.heap.size) [(.slice (some ⟨br, or_, none⟩) m.regs.length c1m), .int .i64 m.pc, (.slice A2m m.mem.length c2m), .int .i64 m.save, .bool m.lets, .bool m.waits, .int .i64 m.halt, (.slice A3m m.ins.length c3m), (.slice A4m m.outs.length c4m), .int .i64 m.count] := Bx.hold hBm_4
      have hFm_5 : ∀ oo, (w4.setCell ⟨w3.heap.size, 6, none⟩ (.int .i64 0)).frozen? ⟨w1.heap.size, oo, none⟩ = false := fz_hold hFm_4
      have hBx_5 : Bx (w4.setCell ⟨w3.heap.size, 6, none⟩ (.int .i64 0)) (w3.heap.size) [(.slice (some ⟨br, or_, none⟩) m.regs.length c1m), .int .i64 m.pc, (.slice A2m m.mem.length c2m), .int .i64 m.save, .bool m.lets, .bool m.waits, .int .i64 0, (.slice A3m m.ins.length c3m), (.slice A4m m.outs.length c4m), .int .i64 m.count] := (by have := Bx.put hBx_4 (j := 6) (by simp) (.int .i64 0); simpa using this : Bx (w4.setCell ⟨w3.heap.size, 6, none⟩ (.int .i64 0)) (w3.heap.size) [(.slice (some ⟨br, or_, none⟩) m.regs.length c1m), .int .i64 m.pc, (.slice A2m m.mem.length c2m), .int .i64 m.save, .bool m.lets, .bool m.waits, .int .i64 0, (.slice A3m m.ins.length c3m), (.slice A4m m.outs.length c4m), .int .i64 m.count])
      have hFx_5 : ∀ oo, (w4.setCell ⟨w3.heap.size, 6, none⟩ (.int .i64 0)).frozen? ⟨w3.heap.size, oo, none⟩ = false := fz_hold hFx_4
      generalize (w4.setCell ⟨w3.heap.size, 6, none⟩ (.int .i64 0)) = w5 at *
      clear hBm_4 hFm_4 hBx_4 hFx_4 hb1_4 hb3_4
      have ym : w1.heap.size < w5.heap.size := by omega
      have xm0 := hBm_5 0 _ rfl
      have xm1 := hBm_5 1 _ rfl
      have xm2 := hBm_5 2 _ rfl
      have xm3 := hBm_5 3 _ rfl
      have xm4 := hBm_5 4 _ rfl
      have xm5 := hBm_5 5 _ rfl
      have xm6 := hBm_5 6 _ rfl
      have xm7 := hBm_5 7 _ rfl
      have xm8 := hBm_5 8 _ rfl
      have xm9 := hBm_5 9 _ rfl
      have fm := hFm_5
      have yx : w3.heap.size < w5.heap.size := by omega
      have xx0 := hBx_5 0 _ rfl
      have xx1 := hBx_5 1 _ rfl
      have xx2 := hBx_5 2 _ rfl
      have xx3 := hBx_5 3 _ rfl
      have xx4 := hBx_5 4 _ rfl
      have xx5 := hBx_5 5 _ rfl
      have xx6 := hBx_5 6 _ rfl
      have xx7 := hBx_5 7 _ rfl
      have xx8 := hBx_5 8 _ rfl
      have xx9 := hBx_5 9 _ rfl
      have fx := hFx_5
      go_upto_region 10 with fail
      clear xm0 xm1 xm2 xm3 xm4 xm5 xm6 xm7 xm8 xm9 ym
      clear fm
      clear xx0 xx1 xx2 xx3 xx4 xx5 xx6 xx7 xx8 xx9 yx
      clear fx
      have he6 : Ext w (w5.setCell ⟨w3.heap.size, 5, none⟩ (.bool false)) := Ext.hold he5
      have hs6 : w5.heap.size + 0 ≤ ((w5.setCell ⟨w3.heap.size, 5, none⟩ (.bool false))).heap.size := by simp
      have hb1_6 : Ext w1 (w5.setCell ⟨w3.heap.size, 5, none⟩ (.bool false)) := Ext.hold hb1_5
      have hb3_6 : Ext w3 (w5.setCell ⟨w3.heap.size, 5, none⟩ (.bool false)) := Ext.hold hb3_5
      have hBm_6 : Bx (w5.setCell ⟨w3.heap.size, 5, none⟩ (.bool false)) (w1.heap.size) [(.slice (some ⟨br, or_, none⟩) m.regs.length c1m), .int .i64 m.pc, (.slice A2m m.mem.length c2m), .int .i64 m.save, .bool m.lets, .bool m.waits, .int .i64 m.halt, (.slice A3m m.ins.length c3m), (.slice A4m m.outs.length c4m), .int .i64 m.count] := Bx.hold hBm_5
      have hFm_6 : ∀ oo, (w5.setCell ⟨w3.heap.size, 5, none⟩ (.bool false)).frozen? ⟨w1.heap.size, oo, none⟩ = false := fz_hold hFm_5
      have hBx_6 : Bx (w5.setCell ⟨w3.heap.size, 5, none⟩ (.bool false)) (w3.heap.size) [(.slice (some ⟨br, or_, none⟩) m.regs.length c1m), .int .i64 m.pc, (.slice A2m m.mem.length c2m), .int .i64 m.save, .bool m.lets, .bool false, .int .i64 0, (.slice A3m m.ins.length c3m), (.slice A4m m.outs.length c4m), .int .i64 m.count] := (by have := Bx.put hBx_5 (j := 5) (by simp) (.bool false); simpa using this : Bx (w5.setCell ⟨w3.heap.size, 5, none⟩ (.bool false)) (w3.heap.size) [(.slice (some ⟨br, or_, none⟩) m.regs.length c1m), .int .i64 m.pc, (.slice A2m m.mem.length c2m), .int .i64 m.save, .bool m.lets, .bool false, .int .i64 0, (.slice A3m m.ins.length c3m), (.slice A4m m.outs.length c4m), .int .i64 m.count])
      have hFx_6 : ∀ oo, (w5.setCell ⟨w3.heap.size, 5, none⟩ (.bool false)).frozen? ⟨w3.heap.size, oo, none⟩ = false := fz_hold hFx_5
      generalize (w5.setCell ⟨w3.heap.size, 5, none⟩ (.bool false)) = w6 at *
      clear hBm_5 hFm_5 hBx_5 hFx_5 hb1_5 hb3_5
      have ym : w1.heap.size < w6.heap.size := by omega
      have xm0 := hBm_6 0 _ rfl
      have xm1 := hBm_6 1 _ rfl
      have xm2 := hBm_6 2 _ rfl
      have xm3 := hBm_6 3 _ rfl
      have xm4 := hBm_6 4 _ rfl
      have xm5 := hBm_6 5 _ rfl
      have xm6 := hBm_6 6 _ rfl
      have xm7 := hBm_6 7 _ rfl
      have xm8 := hBm_6 8 _ rfl
      have xm9 := hBm_6 9 _ rfl
      have fm := hFm_6
      have yx : w3.heap.size < w6.heap.size := by omega
      have xx0 := hBx_6 0 _ rfl
      have xx1 := hBx_6 1 _ rfl
      have xx2 := hBx_6 2 _ rfl
      have xx3 := hBx_6 3 _ rfl
      have xx4 := hBx_6 4 _ rfl
      have xx5 := hBx_6 5 _ rfl
      have xx6 := hBx_6 6 _ rfl
      have xx7 := hBx_6 7 _ rfl
      have xx8 := hBx_6 8 _ rfl
      have xx9 := hBx_6 9 _ rfl
      have fx := hFx_6
      go_upto_region 11 with fail
      clear xm0 xm1 xm2 xm3 xm4 xm5 xm6 xm7 xm8 xm9 ym
      clear fm
      clear xx0 xx1 xx2 xx3 xx4 xx5 xx6 xx7 xx8 xx9 yx
      clear fx
      have he7 : Ext w (w6.setCell ⟨w3.heap.size, 1, none⟩ (.int .i64 0)) := Ext.hold he6
      have hs7 : w6.heap.size + 0 ≤ ((w6.setCell ⟨w3.heap.size, 1, none⟩ (.int .i64 0))).heap.size := by simp
      have hb1_7 : Ext w1 (w6.setCell ⟨w3.heap.size, 1, none⟩ (.int .i64 0)) := Ext.hold hb1_6
      have hb3_7 : Ext w3 (w6.setCell ⟨w3.heap.size, 1, none⟩ (.int .i64 0)) := Ext.hold hb3_6
      have hBm_7 : Bx (w6.setCell ⟨w3.heap.size, 1, none⟩ (.int .i64 0)) (w1.heap.size) [(.slice (some ⟨br, or_, none⟩) m.regs.length c1m), .int .i64 m.pc, (.slice A2m m.mem.length c2m), .int .i64 m.save, .bool m.lets, .bool m.waits, .int .i64 m.halt, (.slice A3m m.ins.length c3m), (.slice A4m m.outs.length c4m), .int .i64 m.count] := Bx.hold hBm_6
      have hFm_7 : ∀ oo, (w6.setCell ⟨w3.heap.size, 1, none⟩ (.int .i64 0)).frozen? ⟨w1.heap.size, oo, none⟩ = false := fz_hold hFm_6
      have hBx_7 : Bx (w6.setCell ⟨w3.heap.size, 1, none⟩ (.int .i64 0)) (w3.heap.size) [(.slice (some ⟨br, or_, none⟩) m.regs.length c1m), .int .i64 0, (.slice A2m m.mem.length c2m), .int .i64 m.save, .bool m.lets, .bool false, .int .i64 0, (.slice A3m m.ins.length c3m), (.slice A4m m.outs.length c4m), .int .i64 m.count] := (by have := Bx.put hBx_6 (j := 1) (by simp) (.int .i64 0); simpa using this : Bx (w6.setCell ⟨w3.heap.size, 1, none⟩ (.int .i64 0)) (w3.heap.size) [(.slice (some ⟨br, or_, none⟩) m.regs.length c1m), .int .i64 0, (.slice A2m m.mem.length c2m), .int .i64 m.save, .bool m.lets, .bool false, .int .i64 0, (.slice A3m m.ins.length c3m), (.slice A4m m.outs.length c4m), .int .i64 m.count])
      have hFx_7 : ∀ oo, (w6.setCell ⟨w3.heap.size, 1, none⟩ (.int .i64 0)).frozen? ⟨w3.heap.size, oo, none⟩ = false := fz_hold hFx_6
      generalize (w6.setCell ⟨w3.heap.size, 1, none⟩ (.int .i64 0)) = w7 at *
      clear hBm_6 hFm_6 hBx_6 hFx_6 hb1_6 hb3_6
      have hsl := (tm2.ext (show Ext w1 w7 from Ext.hold hb1_7))
      obtain ⟨bM, oM, o3, rfl, hif, hnc, hcm, hdr⟩ := hsl.dropIf hml0
      unfold maxLen at hcm
      have hl1_ : (1 : Int) ≤ (m.mem.length : Int) := by omega
      clear hsl
      have hpw := insPut_word ⟨8, 2, 3, k⟩
      have hpf : Fits (insPut ⟨8, 2, 3, k⟩) := by unfold Fits; omega
      have ym : w1.heap.size < w7.heap.size := by omega
      have xm0 := hBm_7 0 _ rfl
      have xm1 := hBm_7 1 _ rfl
      have xm2 := hBm_7 2 _ rfl
      have xm3 := hBm_7 3 _ rfl
      have xm4 := hBm_7 4 _ rfl
      have xm5 := hBm_7 5 _ rfl
      have xm6 := hBm_7 6 _ rfl
      have xm7 := hBm_7 7 _ rfl
      have xm8 := hBm_7 8 _ rfl
      have xm9 := hBm_7 9 _ rfl
      have fm := hFm_7
      have yx : w3.heap.size < w7.heap.size := by omega
      have xx0 := hBx_7 0 _ rfl
      have xx1 := hBx_7 1 _ rfl
      have xx2 := hBx_7 2 _ rfl
      have xx3 := hBx_7 3 _ rfl
      have xx4 := hBx_7 4 _ rfl
      have xx5 := hBx_7 5 _ rfl
      have xx6 := hBx_7 6 _ rfl
      have xx7 := hBx_7 7 _ rfl
      have xx8 := hBx_7 8 _ rfl
      have xx9 := hBx_7 9 _ rfl
      have fx := hFx_7
      go_upto_region 11 with fail
      have hS : ∀ w', Ext w7 w' → ∀ bb oo, bb < w7.heap.size → w'.cell? ⟨bb, oo, none⟩ = w7.cell? ⟨bb, oo, none⟩ := fun w' hx bb oo hb => hx.cell hb
      refine wp_region_plan (fun w' => Ext w7 w') 7 (.float 0 (.float 1 (.float 4 (.float 5 (.float 6 (.chain 2 (.chain 3 (.tail 7)))))))) (by kernel_rfl) (by kernel_rfl) (Ext.refl _).drew ?_
      iterate 5 ((refine Plan.float_step (v := ?_) rfl (by rfl) (fun _ _ _ h => h) (fun w' hSw => ?_) ?_; rotate_left; · (go_simp; try with_reducible rfl)); (try simp only [Act.put, List.setIfInBounds_toArray, List.set_cons_zero, List.set_cons_succ]))
      refine Plan.chain_step rfl (fun K hK => ?_)
      go_simp
      refine (implInsPut_any ⟨8, 2, 3, k⟩ _ lf (hF.ext (Ext.hold he7))).mono ?_
      rintro e w8 ⟨rfl, hy⟩
      refine hK.out _ _ (Ext.trans Ext.auto hy) ?_
      clear hK
      (try simp only [Act.put, List.setIfInBounds_toArray, List.set_cons_zero, List.set_cons_succ])
      have hb7_7 : Ext w7 w7 := Ext.refl _
      have hb1_8 : Ext w1 w8 := Ext.trans (Ext.hold hb1_7) hy
      have hb3_8 : Ext w3 w8 := Ext.trans (Ext.hold hb3_7) hy
      have hb7_8 : Ext w7 w8 := Ext.trans (Ext.hold hb7_7) hy
      have hs8 := hy.size
      try simp at hs8
      have he8 : Ext w w8 := Ext.trans (Ext.hold he7) hy
      have hBm_8 : Bx w8 (w1.heap.size) [(.slice (some ⟨br, or_, none⟩) m.regs.length c1m), .int .i64 m.pc, (.slice (some ⟨bM, oM, none⟩) m.mem.length c2m), .int .i64 m.save, .bool m.lets, .bool m.waits, .int .i64 m.halt, (.slice A3m m.ins.length c3m), (.slice A4m m.outs.length c4m), .int .i64 m.count] := hy.bx (Bx.hold hBm_7) (by first | omega | (simp; done) | (simp; omega))
      have hFm_8 : ∀ oo, w8.frozen? ⟨w1.heap.size, oo, none⟩ = false := fun oo => (hy.frozen (by first | omega | (simp; done) | (simp; omega))).trans ((fz_hold hFm_7) oo)
      have hBx_8 : Bx w8 (w3.heap.size) [(.slice (some ⟨br, or_, none⟩) m.regs.length c1m), .int .i64 0, (.slice (some ⟨bM, oM, none⟩) m.mem.length c2m), .int .i64 m.save, .bool m.lets, .bool false, .int .i64 0, (.slice A3m m.ins.length c3m), (.slice A4m m.outs.length c4m), .int .i64 m.count] := hy.bx (Bx.hold hBx_7) (by first | omega | (simp; done) | (simp; omega))
      have hFx_8 : ∀ oo, w8.frozen? ⟨w3.heap.size, oo, none⟩ = false := fun oo => (hy.frozen (by first | omega | (simp; done) | (simp; omega))).trans ((fz_hold hFx_7) oo)
      try clear hBm_7 hFm_7 hBx_7 hFx_7
      clear hy hb1_7 hb3_7 hb7_7
      refine Plan.chain_step rfl (fun K hK => ?_)
      go_simp
      refine hK.out _ _ (Ext.hold hb7_8) ?_
      clear hK
      (try simp only [Act.put, List.setIfInBounds_toArray, List.set_cons_zero, List.set_cons_succ])
      refine Plan.tail_step ?_
      simp only [List.drop_succ_cons, List.drop_zero]
      clear hS
      clear xm0 xm1 xm2 xm3 xm4 xm5 xm6 xm7 xm8 xm9 ym
      clear fm
      clear xx0 xx1 xx2 xx3 xx4 xx5 xx6 xx7 xx8 xx9 yx
      clear fx
      have hll : ([insPut ⟨8, 2, 3, k⟩] ++ m.mem.drop 1).length = m.mem.length := by simp; omega
      have hbA := App.built (α := Int) w8 3 #[.int .i64 (insPut ⟨8, 2, 3, k⟩)] [insPut ⟨8, 2, 3, k⟩] rfl rfl (fun i a u ha hu => by
        have hi : i = 0 := by have := (List.getElem?_eq_some_iff.1 ha).1; simpa using this
        subst hi
        simp at ha hu
        subst ha hu
        exact ⟨rfl, hpf⟩) (by unfold maxLen; simp)
      have hdr2 := hdr.ext (show Ext w7 (w8.alloc (.cells #[.int .i64 (insPut ⟨8, 2, 3, k⟩)] 3)) from Ext.hold hb7_8)
      have ym : w1.heap.size < w8.heap.size := by omega
      have xm0 := hBm_8 0 _ rfl
      have xm1 := hBm_8 1 _ rfl
      have xm2 := hBm_8 2 _ rfl
      have xm3 := hBm_8 3 _ rfl
      have xm4 := hBm_8 4 _ rfl
      have xm5 := hBm_8 5 _ rfl
      have xm6 := hBm_8 6 _ rfl
      have xm7 := hBm_8 7 _ rfl
      have xm8 := hBm_8 8 _ rfl
      have xm9 := hBm_8 9 _ rfl
      have fm := hFm_8
      have yx : w3.heap.size < w8.heap.size := by omega
      have xx0 := hBx_8 0 _ rfl
      have xx1 := hBx_8 1 _ rfl
      have xx2 := hBx_8 2 _ rfl
      have xx3 := hBx_8 3 _ rfl
      have xx4 := hBx_8 4 _ rfl
      have xx5 := hBx_8 5 _ rfl
      have xx6 := hBx_8 6 _ rfl
      have xx7 := hBx_8 7 _ rfl
      have xx8 := hBx_8 8 _ rfl
      have xx9 := hBx_8 9 _ rfl
      have fx := hFx_8
      go_upto_region 12 with (at_builtin; go_must (refine wpList_append_flat2 (α := Int) (w0 := w8) rfl _ _ 22 rfl i0 _ 8 Tryd.underlying22 HI.out HZ0.out HZ1.out HZ2.out rfl hbA rfl _ (m.mem.drop 1) _ rfl hdr2 (by unfold maxLen; simp; omega) (by simp; omega) ?_); intro v' w9 Fs' xs' hA9 hg9 hb9; obtain ⟨F9, hO9, hF9⟩ := hA9.done; have hyq := hA9.ext; obtain ⟨A9, c9, rfl, -, -⟩ := hO9.sl.form; rw [hll] at hO9; simp only [hll]; have hxq := hyq.bx hBx_8 yx; have fxq := fun oo => (hyq.frozen yx).trans (hFx_8 oo); have yxq := Nat.lt_of_lt_of_le yx hyq.size; have xz0 := hxq 0 _ rfl; have xz1 := hxq 1 _ rfl; have xz2 := hxq 2 _ rfl; have xz3 := hxq 3 _ rfl; have xz4 := hxq 4 _ rfl; have xz5 := hxq 5 _ rfl; have xz6 := hxq 6 _ rfl; have xz7 := hxq 7 _ rfl; have xz8 := hxq 8 _ rfl; have xz9 := hxq 9 _ rfl)
      clear xm0 xm1 xm2 xm3 xm4 xm5 xm6 xm7 xm8 xm9 ym
      clear fm
      clear xx0 xx1 xx2 xx3 xx4 xx5 xx6 xx7 xx8 xx9 yx
      clear fx
      clear fxq yxq hxq hg9 hb9 hA9 hbA hdr2 xz0 xz1 xz2 xz3 xz4 xz5 xz6 xz7 xz8 xz9
      have hy := hyq
      clear hyq
      have hb1_9 : Ext w1 w9 := Ext.trans (Ext.hold hb1_8) hy
      have hb3_9 : Ext w3 w9 := Ext.trans (Ext.hold hb3_8) hy
      have hs9 := hy.size
      try simp at hs9
      have he9 : Ext w w9 := Ext.trans (Ext.hold he8) hy
      have hBm_9 : Bx w9 (w1.heap.size) [(.slice (some ⟨br, or_, none⟩) m.regs.length c1m), .int .i64 m.pc, (.slice (some ⟨bM, oM, none⟩) m.mem.length c2m), .int .i64 m.save, .bool m.lets, .bool m.waits, .int .i64 m.halt, (.slice A3m m.ins.length c3m), (.slice A4m m.outs.length c4m), .int .i64 m.count] := hy.bx (Bx.hold hBm_8) (by first | omega | (simp; done) | (simp; omega))
      have hFm_9 : ∀ oo, w9.frozen? ⟨w1.heap.size, oo, none⟩ = false := fun oo => (hy.frozen (by first | omega | (simp; done) | (simp; omega))).trans ((fz_hold hFm_8) oo)
      have hBx_9 : Bx w9 (w3.heap.size) [(.slice (some ⟨br, or_, none⟩) m.regs.length c1m), .int .i64 0, (.slice (some ⟨bM, oM, none⟩) m.mem.length c2m), .int .i64 m.save, .bool m.lets, .bool false, .int .i64 0, (.slice A3m m.ins.length c3m), (.slice A4m m.outs.length c4m), .int .i64 m.count] := hy.bx (Bx.hold hBx_8) (by first | omega | (simp; done) | (simp; omega))
      have hFx_9 : ∀ oo, w9.frozen? ⟨w3.heap.size, oo, none⟩ = false := fun oo => (hy.frozen (by first | omega | (simp; done) | (simp; omega))).trans ((fz_hold hFx_8) oo)
      try clear hBm_8 hFm_8 hBx_8 hFx_8
      clear hy hb1_8 hb3_8
      have hxs := ((hO9.sl.keep (S' := New w8 w9) (fun _ _ _ => rfl) hF9.2).turn ((Turn.refl [w3.heap.size] w9).set (p := ⟨w3.heap.size, 2, none⟩) (.inl (by simp)) (.slice A9 m.mem.length c9)) (fun x hx => ⟨hx.2, by have := hx.1; simp; omega⟩)).keep (S' := Old (w9.setCell ⟨w3.heap.size, 2, none⟩ (.slice A9 m.mem.length c9))) (fun _ _ _ => rfl) (fun b hb => by show b < _; simp; exact hb.2)
      clear hO9 hF9
      have he10 : Ext w (w9.setCell ⟨w3.heap.size, 2, none⟩ (.slice A9 m.mem.length c9)) := Ext.hold he9
      have hs10 : w9.heap.size + 0 ≤ ((w9.setCell ⟨w3.heap.size, 2, none⟩ (.slice A9 m.mem.length c9))).heap.size := by simp
      have hb1_10 : Ext w1 (w9.setCell ⟨w3.heap.size, 2, none⟩ (.slice A9 m.mem.length c9)) := Ext.hold hb1_9
      have hb3_10 : Ext w3 (w9.setCell ⟨w3.heap.size, 2, none⟩ (.slice A9 m.mem.length c9)) := Ext.hold hb3_9
      have hBm_10 : Bx (w9.setCell ⟨w3.heap.size, 2, none⟩ (.slice A9 m.mem.length c9)) (w1.heap.size) [(.slice (some ⟨br, or_, none⟩) m.regs.length c1m), .int .i64 m.pc, (.slice (some ⟨bM, oM, none⟩) m.mem.length c2m), .int .i64 m.save, .bool m.lets, .bool m.waits, .int .i64 m.halt, (.slice A3m m.ins.length c3m), (.slice A4m m.outs.length c4m), .int .i64 m.count] := Bx.hold hBm_9
      have hFm_10 : ∀ oo, (w9.setCell ⟨w3.heap.size, 2, none⟩ (.slice A9 m.mem.length c9)).frozen? ⟨w1.heap.size, oo, none⟩ = false := fz_hold hFm_9
      have hBx_10 : Bx (w9.setCell ⟨w3.heap.size, 2, none⟩ (.slice A9 m.mem.length c9)) (w3.heap.size) [(.slice (some ⟨br, or_, none⟩) m.regs.length c1m), .int .i64 0, .slice A9 m.mem.length c9, .int .i64 m.save, .bool m.lets, .bool false, .int .i64 0, (.slice A3m m.ins.length c3m), (.slice A4m m.outs.length c4m), .int .i64 m.count] := (by have := Bx.put hBx_9 (j := 2) (by simp) (.slice A9 m.mem.length c9); simpa using this : Bx (w9.setCell ⟨w3.heap.size, 2, none⟩ (.slice A9 m.mem.length c9)) (w3.heap.size) [(.slice (some ⟨br, or_, none⟩) m.regs.length c1m), .int .i64 0, .slice A9 m.mem.length c9, .int .i64 m.save, .bool m.lets, .bool false, .int .i64 0, (.slice A3m m.ins.length c3m), (.slice A4m m.outs.length c4m), .int .i64 m.count])
      have hFx_10 : ∀ oo, (w9.setCell ⟨w3.heap.size, 2, none⟩ (.slice A9 m.mem.length c9)).frozen? ⟨w3.heap.size, oo, none⟩ = false := fz_hold hFx_9
      generalize (w9.setCell ⟨w3.heap.size, 2, none⟩ (.slice A9 m.mem.length c9)) = w10 at *
      clear hBm_9 hFm_9 hBx_9 hFx_9 hb1_9 hb3_9
      obtain ⟨hy1, hy2, -⟩ := shiftM_step HK.out hcl hk0 hk1
      generalize hgy : mStep (shiftM m k) false = y at *
      have HGY := hide hgy
      clear hgy
      rw [HM3.out] at hy1
      have HY2 := hide hy2
      clear hy2
      have ym : w1.heap.size < w10.heap.size := by omega
      have xm0 := hBm_10 0 _ rfl
      have xm1 := hBm_10 1 _ rfl
      have xm2 := hBm_10 2 _ rfl
      have xm3 := hBm_10 3 _ rfl
      have xm4 := hBm_10 4 _ rfl
      have xm5 := hBm_10 5 _ rfl
      have xm6 := hBm_10 6 _ rfl
      have xm7 := hBm_10 7 _ rfl
      have xm8 := hBm_10 8 _ rfl
      have xm9 := hBm_10 9 _ rfl
      have fm := hFm_10
      have yx : w3.heap.size < w10.heap.size := by omega
      have xx0 := hBx_10 0 _ rfl
      have xx1 := hBx_10 1 _ rfl
      have xx2 := hBx_10 2 _ rfl
      have xx3 := hBx_10 3 _ rfl
      have xx4 := hBx_10 4 _ rfl
      have xx5 := hBx_10 5 _ rfl
      have xx6 := hBx_10 6 _ rfl
      have xx7 := hBx_10 7 _ rfl
      have xx8 := hBx_10 8 _ rfl
      have xx9 := hBx_10 9 _ rfl
      have fx := hFx_10
      have HLL := hide hll
      clear hll
      go_wp2_with fail
      refine (implStep_r (shiftM m k) false _ _ _ _ _ (tm1.ext (Ext.hold hb1_10)) hxs (tm3.ext (Ext.hold hb1_10)) (tm4.ext (Ext.hold hb1_10)) (by show m.regs.length ≤ _; omega) (by show ([insPut ⟨8, 2, 3, k⟩] ++ m.mem.drop 1).length ≤ _; rw [HLL.out]; omega) (by show m.ins.length ≤ _; omega) (by show m.outs.length ≤ _; omega) (by show m.outs.length ≤ _; omega) lf (hF.ext (Ext.hold he10))).mono ?_
      intro e w11 hr
      rw [HGY.out] at hr
      unfold MRet at hr
      obtain ⟨A1y, A2y, A3y, A4y, c1y, c2y, c3y, c4y, rfl, ty1, ty2, ty3, ty4, hy⟩ := hr
      clear xm0 xm1 xm2 xm3 xm4 xm5 xm6 xm7 xm8 xm9 ym
      clear fm
      clear xx0 xx1 xx2 xx3 xx4 xx5 xx6 xx7 xx8 xx9 yx
      clear fx
      have hb1_11 : Ext w1 w11 := Ext.trans (Ext.hold hb1_10) hy
      have hb3_11 : Ext w3 w11 := Ext.trans (Ext.hold hb3_10) hy
      have hs11 := hy.size
      try simp at hs11
      have he11 : Ext w w11 := Ext.trans (Ext.hold he10) hy
      have hBm_11 : Bx w11 (w1.heap.size) [(.slice (some ⟨br, or_, none⟩) m.regs.length c1m), .int .i64 m.pc, (.slice (some ⟨bM, oM, none⟩) m.mem.length c2m), .int .i64 m.save, .bool m.lets, .bool m.waits, .int .i64 m.halt, (.slice A3m m.ins.length c3m), (.slice A4m m.outs.length c4m), .int .i64 m.count] := hy.bx (Bx.hold hBm_10) (by first | omega | (simp; done) | (simp; omega))
      have hFm_11 : ∀ oo, w11.frozen? ⟨w1.heap.size, oo, none⟩ = false := fun oo => (hy.frozen (by first | omega | (simp; done) | (simp; omega))).trans ((fz_hold hFm_10) oo)
      have hBx_11 : Bx w11 (w3.heap.size) [(.slice (some ⟨br, or_, none⟩) m.regs.length c1m), .int .i64 0, .slice A9 m.mem.length c9, .int .i64 m.save, .bool m.lets, .bool false, .int .i64 0, (.slice A3m m.ins.length c3m), (.slice A4m m.outs.length c4m), .int .i64 m.count] := hy.bx (Bx.hold hBx_10) (by first | omega | (simp; done) | (simp; omega))
      have hFx_11 : ∀ oo, w11.frozen? ⟨w3.heap.size, oo, none⟩ = false := fun oo => (hy.frozen (by first | omega | (simp; done) | (simp; omega))).trans ((fz_hold hFx_10) oo)
      try clear hBm_10 hFm_10 hBx_10 hFx_10
      clear hy hb1_10 hb3_10
      have hb11_11 : Ext w11 w11 := Ext.refl _
      have ym : w1.heap.size < w11.heap.size := by omega
      have xm0 := hBm_11 0 _ rfl
      have xm1 := hBm_11 1 _ rfl
      have xm2 := hBm_11 2 _ rfl
      have xm3 := hBm_11 3 _ rfl
      have xm4 := hBm_11 4 _ rfl
      have xm5 := hBm_11 5 _ rfl
      have xm6 := hBm_11 6 _ rfl
      have xm7 := hBm_11 7 _ rfl
      have xm8 := hBm_11 8 _ rfl
      have xm9 := hBm_11 9 _ rfl
      have fm := hFm_11
      have yx : w3.heap.size < w11.heap.size := by omega
      have xx0 := hBx_11 0 _ rfl
      have xx1 := hBx_11 1 _ rfl
      have xx2 := hBx_11 2 _ rfl
      have xx3 := hBx_11 3 _ rfl
      have xx4 := hBx_11 4 _ rfl
      have xx5 := hBx_11 5 _ rfl
      have xx6 := hBx_11 6 _ rfl
      have xx7 := hBx_11 7 _ rfl
      have xx8 := hBx_11 8 _ rfl
      have xx9 := hBx_11 9 _ rfl
      have fx := hFx_11
      go_upto_region 13 with fail
      clear xm0 xm1 xm2 xm3 xm4 xm5 xm6 xm7 xm8 xm9 ym
      clear fm
      clear xx0 xx1 xx2 xx3 xx4 xx5 xx6 xx7 xx8 xx9 yx
      clear fx
      have he12 : Ext w (w11.alloc (Obj.cells #[(.slice A1y y.regs.length c1y), .int .i64 y.pc, (.slice A2y y.mem.length c2y), .int .i64 y.save, .bool y.lets, .bool y.waits, .int .i64 y.halt, (.slice A3y y.ins.length c3y), (.slice A4y y.outs.length c4y), .int .i64 y.count] 26)) := Ext.hold he11
      have hs12 : w11.heap.size + 1 ≤ ((w11.alloc (Obj.cells #[(.slice A1y y.regs.length c1y), .int .i64 y.pc, (.slice A2y y.mem.length c2y), .int .i64 y.save, .bool y.lets, .bool y.waits, .int .i64 y.halt, (.slice A3y y.ins.length c3y), (.slice A4y y.outs.length c4y), .int .i64 y.count] 26))).heap.size := by simp
      have hb1_12 : Ext w1 (w11.alloc (Obj.cells #[(.slice A1y y.regs.length c1y), .int .i64 y.pc, (.slice A2y y.mem.length c2y), .int .i64 y.save, .bool y.lets, .bool y.waits, .int .i64 y.halt, (.slice A3y y.ins.length c3y), (.slice A4y y.outs.length c4y), .int .i64 y.count] 26)) := Ext.hold hb1_11
      have hb3_12 : Ext w3 (w11.alloc (Obj.cells #[(.slice A1y y.regs.length c1y), .int .i64 y.pc, (.slice A2y y.mem.length c2y), .int .i64 y.save, .bool y.lets, .bool y.waits, .int .i64 y.halt, (.slice A3y y.ins.length c3y), (.slice A4y y.outs.length c4y), .int .i64 y.count] 26)) := Ext.hold hb3_11
      have hb11_12 : Ext w11 (w11.alloc (Obj.cells #[(.slice A1y y.regs.length c1y), .int .i64 y.pc, (.slice A2y y.mem.length c2y), .int .i64 y.save, .bool y.lets, .bool y.waits, .int .i64 y.halt, (.slice A3y y.ins.length c3y), (.slice A4y y.outs.length c4y), .int .i64 y.count] 26)) := Ext.hold hb11_11
      have hBm_12 : Bx (w11.alloc (Obj.cells #[(.slice A1y y.regs.length c1y), .int .i64 y.pc, (.slice A2y y.mem.length c2y), .int .i64 y.save, .bool y.lets, .bool y.waits, .int .i64 y.halt, (.slice A3y y.ins.length c3y), (.slice A4y y.outs.length c4y), .int .i64 y.count] 26)) (w1.heap.size) [(.slice (some ⟨br, or_, none⟩) m.regs.length c1m), .int .i64 m.pc, (.slice (some ⟨bM, oM, none⟩) m.mem.length c2m), .int .i64 m.save, .bool m.lets, .bool m.waits, .int .i64 m.halt, (.slice A3m m.ins.length c3m), (.slice A4m m.outs.length c4m), .int .i64 m.count] := Bx.hold hBm_11
      have hFm_12 : ∀ oo, (w11.alloc (Obj.cells #[(.slice A1y y.regs.length c1y), .int .i64 y.pc, (.slice A2y y.mem.length c2y), .int .i64 y.save, .bool y.lets, .bool y.waits, .int .i64 y.halt, (.slice A3y y.ins.length c3y), (.slice A4y y.outs.length c4y), .int .i64 y.count] 26)).frozen? ⟨w1.heap.size, oo, none⟩ = false := fz_hold hFm_11
      have hBx_12 : Bx (w11.alloc (Obj.cells #[(.slice A1y y.regs.length c1y), .int .i64 y.pc, (.slice A2y y.mem.length c2y), .int .i64 y.save, .bool y.lets, .bool y.waits, .int .i64 y.halt, (.slice A3y y.ins.length c3y), (.slice A4y y.outs.length c4y), .int .i64 y.count] 26)) (w3.heap.size) [(.slice (some ⟨br, or_, none⟩) m.regs.length c1m), .int .i64 0, .slice A9 m.mem.length c9, .int .i64 m.save, .bool m.lets, .bool false, .int .i64 0, (.slice A3m m.ins.length c3m), (.slice A4m m.outs.length c4m), .int .i64 m.count] := Bx.hold hBx_11
      have hFx_12 : ∀ oo, (w11.alloc (Obj.cells #[(.slice A1y y.regs.length c1y), .int .i64 y.pc, (.slice A2y y.mem.length c2y), .int .i64 y.save, .bool y.lets, .bool y.waits, .int .i64 y.halt, (.slice A3y y.ins.length c3y), (.slice A4y y.outs.length c4y), .int .i64 y.count] 26)).frozen? ⟨w3.heap.size, oo, none⟩ = false := fz_hold hFx_11
      have hBy_12 : Bx (w11.alloc (Obj.cells #[(.slice A1y y.regs.length c1y), .int .i64 y.pc, (.slice A2y y.mem.length c2y), .int .i64 y.save, .bool y.lets, .bool y.waits, .int .i64 y.halt, (.slice A3y y.ins.length c3y), (.slice A4y y.outs.length c4y), .int .i64 y.count] 26)) (w11.heap.size) [(.slice A1y y.regs.length c1y), .int .i64 y.pc, (.slice A2y y.mem.length c2y), .int .i64 y.save, .bool y.lets, .bool y.waits, .int .i64 y.halt, (.slice A3y y.ins.length c3y), (.slice A4y y.outs.length c4y), .int .i64 y.count] := Bx.new w11 #[(.slice A1y y.regs.length c1y), .int .i64 y.pc, (.slice A2y y.mem.length c2y), .int .i64 y.save, .bool y.lets, .bool y.waits, .int .i64 y.halt, (.slice A3y y.ins.length c3y), (.slice A4y y.outs.length c4y), .int .i64 y.count] 26
      have hFy_12 : ∀ oo, (w11.alloc (Obj.cells #[(.slice A1y y.regs.length c1y), .int .i64 y.pc, (.slice A2y y.mem.length c2y), .int .i64 y.save, .bool y.lets, .bool y.waits, .int .i64 y.halt, (.slice A3y y.ins.length c3y), (.slice A4y y.outs.length c4y), .int .i64 y.count] 26)).frozen? ⟨w11.heap.size, oo, none⟩ = false := fz_new w11 #[(.slice A1y y.regs.length c1y), .int .i64 y.pc, (.slice A2y y.mem.length c2y), .int .i64 y.save, .bool y.lets, .bool y.waits, .int .i64 y.halt, (.slice A3y y.ins.length c3y), (.slice A4y y.outs.length c4y), .int .i64 y.count] 26 rfl
      generalize (w11.alloc (Obj.cells #[(.slice A1y y.regs.length c1y), .int .i64 y.pc, (.slice A2y y.mem.length c2y), .int .i64 y.save, .bool y.lets, .bool y.waits, .int .i64 y.halt, (.slice A3y y.ins.length c3y), (.slice A4y y.outs.length c4y), .int .i64 y.count] 26)) = w12 at *
      clear hBm_11 hFm_11 hBx_11 hFx_11 hb1_11 hb3_11 hb11_11
      have hyl : 2 < y.regs.length := (List.getElem?_eq_some_iff.1 hy1).1
      have hyv : y.regs[2] = dbl m.regs[3] k.toNat := (List.getElem?_eq_some_iff.1 hy1).2
      obtain ⟨by_, oy, rfl, hby, hkY, ey⟩ := at_Int (ty1.ext (show Ext w11 w12 from Ext.hold hb11_12)) hyl
      have hbyl : by_ < w12.heap.size := hby
      have z2 : (2 : Int) < (y.regs.length : Int) := by omega
      have e3w := (hb3_12).cell (o := or_ + 3) hbrl
      rw [e3] at e3w
      have hbr3 : br < w12.heap.size := by omega
      have q7 : (y.count == m.count + 1) = true := beq_iff_eq.2 HY2.out
      have HYV := hide hyv
      clear hy1 hyv e3
      have ym : w1.heap.size < w12.heap.size := by omega
      have xm0 := hBm_12 0 _ rfl
      have xm1 := hBm_12 1 _ rfl
      have xm2 := hBm_12 2 _ rfl
      have xm3 := hBm_12 3 _ rfl
      have xm4 := hBm_12 4 _ rfl
      have xm5 := hBm_12 5 _ rfl
      have xm6 := hBm_12 6 _ rfl
      have xm7 := hBm_12 7 _ rfl
      have xm8 := hBm_12 8 _ rfl
      have xm9 := hBm_12 9 _ rfl
      have fm := hFm_12
      have yx : w3.heap.size < w12.heap.size := by omega
      have xx0 := hBx_12 0 _ rfl
      have xx1 := hBx_12 1 _ rfl
      have xx2 := hBx_12 2 _ rfl
      have xx3 := hBx_12 3 _ rfl
      have xx4 := hBx_12 4 _ rfl
      have xx5 := hBx_12 5 _ rfl
      have xx6 := hBx_12 6 _ rfl
      have xx7 := hBx_12 7 _ rfl
      have xx8 := hBx_12 8 _ rfl
      have xx9 := hBx_12 9 _ rfl
      have fx := hFx_12
      have yy : w11.heap.size < w12.heap.size := by omega
      have xy0 := hBy_12 0 _ rfl
      have xy1 := hBy_12 1 _ rfl
      have xy2 := hBy_12 2 _ rfl
      have xy3 := hBy_12 3 _ rfl
      have xy4 := hBy_12 4 _ rfl
      have xy5 := hBy_12 5 _ rfl
      have xy6 := hBy_12 6 _ rfl
      have xy7 := hBy_12 7 _ rfl
      have xy8 := hBy_12 8 _ rfl
      have xy9 := hBy_12 9 _ rfl
      have fy := hFy_12
      go_wp2_with fail
      go_loop [8, 9] (fun vn vj => ∃ i : Nat, vj = .int .i64 (i : Int) ∧ (i : Int) ≤ k ∧ vn = .int .i64 (dbl m.regs[3] i)) (fun _ vj => k.toNat - (intOf vj).toNat)
      case atStart => exact ⟨0, rfl, hk0, rfl⟩
      case round =>
        obtain ⟨i, rfl, hik, rfl⟩ := hrel
        have hdw := dbl_word hw30 hw31 i
        obtain ⟨hdw0, hdw1⟩ := hdw
        by_cases hlt : (i : Int) < k
        · 
          have q8 : decide ((i : Int) < k) = true := decide_eq_true hlt
          have HD := hide (show wrdDo 1 (dbl m.regs[3] i) (dbl m.regs[3] i) = dbl m.regs[3] (i + 1) from shift_word hdw0 hdw1)
          go_wp2_with fail
          refine (specWrdDo_any 1 (dbl m.regs[3] i) (dbl m.regs[3] i) _ ⟨by omega, by omega⟩ (wordB_yes hdw0 hdw1) (wordB_yes hdw0 hdw1)).mono ?_
          rintro e w' ⟨rfl, rfl⟩
          go_wp2_with fail
          go_round
          case rel => exact ⟨i + 1, by go_num, by omega, by rw [HD.out]⟩
          case measure => (simp [intOf]; try omega)
        · 
          have q8 : decide ((i : Int) < k) = false := decide_eq_false hlt
          have hki : k.toNat = i := by omega
          have q9 : (y.regs[2] == dbl m.regs[3] i) = true := by rw [HYV.out, hki]; simp
          clear hki
          go_wp2_with fail
          go_ret
          exact ⟨rfl, Ext.hold he12⟩

end Go.Proofs.YtabldlhigjhkeaaDoor
