/-
  The law FnMchReturn returns true for every input.
-/
import Derived.Test.YtabldlhigjhkeaaDoorLawStep
import Derived.Test.YtabldlhigjhkeaaDoorLaMach
import Derived.Test.YtabldlhigjhkeaaDoorLawPure
import Derived.Test.YtabldlhigjhkeaaDoorRegLib
import Derived.Deep.DeepCutAuto
namespace Go.Proofs.YtabldlhigjhkeaaDoor
open Go.RowKit

set_option linter.unusedVariables false
set_option linter.unusedSimpArgs false
set_option maxRecDepth 100000

def MRetN (x : MchMach) (w : World) (e : Ending) (w' : World) : Prop := ∃ (A1 A2 A3 A4 : Option Addr) (c1 c2 c3 c4 : Nat), e = .returned (.agg #[.slice A1 x.regs.length c1, .int .i64 x.pc, .slice A2 x.mem.length c2, .int .i64 x.save, .bool x.lets, .bool x.waits, .int .i64 x.halt, .slice A3 x.ins.length c3, .slice A4 x.outs.length c4, .int .i64 x.count]) ∧ Sl w' (New w w') (.slice A1 x.regs.length c1) x.regs ∧ Sl w' (New w w') (.slice A2 x.mem.length c2) x.mem ∧ Sl w' (New w w') (.slice A3 x.ins.length c3) x.ins ∧ Sl w' (New w w') (.slice A4 x.outs.length c4) x.outs ∧ Ext w w'

set_option maxHeartbeats 4000000 in
theorem implStep_n (m : MchMach) (irq : Bool) (vm1 vm2 vm3 vm4 : Value) (w : World) (hm1 : Sl w (Old w) vm1 m.regs) (hm2 : Sl w (Old w) vm2 m.mem) (hm3 : Sl w (Old w) vm3 m.ins) (hm4 : Sl w (Old w) vm4 m.outs) (hn1 : m.regs.length ≤ 4194304) (hn2 : m.mem.length ≤ 4194304) (hn3 : m.ins.length ≤ 4194304) (hn4 : m.outs.length ≤ 4194304) (hn5 : m.outs.length ≤ 4194303) (lf : Nat) (hF : Forms lf w) :
    Calls Tryd.prog 19 #[.agg #[vm1, .int .i64 m.pc, vm2, .int .i64 m.save, .bool m.lets, .bool m.waits, .int .i64 m.halt, vm3, vm4, .int .i64 m.count], .bool irq] w fun e w' => MRetN (mStep m irq) w e w' :=
  (implMchStep_any m irq vm1 vm2 vm3 vm4 w hm1 hm2 hm3 hm4 hn1 hn2 hn3 hn4 hn5 lf hF).mono fun e w' ⟨r1, r2, r3, r4, F1, F2, F3, F4, he, h1, h2, h3, h4, hf, hE⟩ => by
    obtain ⟨A1, c1, rfl, -, -⟩ := h1.sl.form
    obtain ⟨A2, c2, rfl, -, -⟩ := h2.sl.form
    obtain ⟨A3, c3, rfl, -, -⟩ := h3.sl.form
    obtain ⟨A4, c4, rfl, -, -⟩ := h4.sl.form
    exact ⟨A1, A2, A3, A4, c1, c2, c3, c4, he, h1.sl.keep (fun _ _ _ => rfl) hf.inl.inl.inl.2, h2.sl.keep (fun _ _ _ => rfl) hf.inl.inl.inr.2, h3.sl.keep (fun _ _ _ => rfl) hf.inl.inr.2, h4.sl.keep (fun _ _ _ => rfl) hf.inr.2, hE⟩

set_option maxHeartbeats 64000000 in
theorem lawMchReturn_any (code : List UInt8) (v : Value) (w : World) (h : Sl w (Old w) v code) (lf : Nat) (hF : Forms lf w) : Calls Tryd.prog 12 #[v] w fun e w' => e = .returned (.bool true) ∧ Ext w w' := by
  obtain ⟨Ac, cc, rfl, -, -⟩ := h.form
  by_cases hbig : 1048576 < code.length
  · have q1 : decide (1048576 < (code.length : Int)) = true := decide_eq_true (by omega)
    go_enter Tryd.func12, Tryd.ntmps12
    go_wp2
    go_ret
    exact ⟨rfl, Ext.refl _⟩
  have q1 : decide (1048576 < (code.length : Int)) = false := decide_eq_false (by omega)
  go_enter Tryd.func12, Tryd.ntmps12
  go_wp2_with fail
  refine (drawMchStep_any code _ _ h).mono ?_
  intro e w1 hd
  unfold DStep at hd
  obtain ⟨m, A1m, A2m, A3m, A4m, c1m, c2m, c3m, c4m, b, rfl, ⟨hl1, hl2, hl3, hl4⟩, tm1, tm2, tm3, tm4, he1⟩ := hd
  have hs1 := he1.size
  have hb1_1 : Ext w1 w1 := Ext.refl _
  have HIW := hide True.intro
  clear q1 hbig
  go_upto_region 4 with fail
  have he2 : Ext w (w1.alloc (Obj.cells #[(.slice A1m m.regs.length c1m), .int .i64 m.pc, (.slice A2m m.mem.length c2m), .int .i64 m.save, .bool m.lets, .bool m.waits, .int .i64 m.halt, (.slice A3m m.ins.length c3m), (.slice A4m m.outs.length c4m), .int .i64 m.count] 26)) := Ext.hold he1
  have hs2 : w1.heap.size + 1 ≤ ((w1.alloc (Obj.cells #[(.slice A1m m.regs.length c1m), .int .i64 m.pc, (.slice A2m m.mem.length c2m), .int .i64 m.save, .bool m.lets, .bool m.waits, .int .i64 m.halt, (.slice A3m m.ins.length c3m), (.slice A4m m.outs.length c4m), .int .i64 m.count] 26))).heap.size := by simp
  have hb1_2 : Ext w1 (w1.alloc (Obj.cells #[(.slice A1m m.regs.length c1m), .int .i64 m.pc, (.slice A2m m.mem.length c2m), .int .i64 m.save, .bool m.lets, .bool m.waits, .int .i64 m.halt, (.slice A3m m.ins.length c3m), (.slice A4m m.outs.length c4m), .int .i64 m.count] 26)) := Ext.hold hb1_1
  have hBm_2 : Bx (w1.alloc (Obj.cells #[(.slice A1m m.regs.length c1m), .int .i64 m.pc, (.slice A2m m.mem.length c2m), .int .i64 m.save, .bool m.lets, .bool m.waits, .int .i64 m.halt, (.slice A3m m.ins.length c3m), (.slice A4m m.outs.length c4m), .int .i64 m.count] 26)) (w1.heap.size) [(.slice A1m m.regs.length c1m), .int .i64 m.pc, (.slice A2m m.mem.length c2m), .int .i64 m.save, .bool m.lets, .bool m.waits, .int .i64 m.halt, (.slice A3m m.ins.length c3m), (.slice A4m m.outs.length c4m), .int .i64 m.count] := Bx.new w1 #[(.slice A1m m.regs.length c1m), .int .i64 m.pc, (.slice A2m m.mem.length c2m), .int .i64 m.save, .bool m.lets, .bool m.waits, .int .i64 m.halt, (.slice A3m m.ins.length c3m), (.slice A4m m.outs.length c4m), .int .i64 m.count] 26
  have hFm_2 : ∀ oo, (w1.alloc (Obj.cells #[(.slice A1m m.regs.length c1m), .int .i64 m.pc, (.slice A2m m.mem.length c2m), .int .i64 m.save, .bool m.lets, .bool m.waits, .int .i64 m.halt, (.slice A3m m.ins.length c3m), (.slice A4m m.outs.length c4m), .int .i64 m.count] 26)).frozen? ⟨w1.heap.size, oo, none⟩ = false := fz_new w1 #[(.slice A1m m.regs.length c1m), .int .i64 m.pc, (.slice A2m m.mem.length c2m), .int .i64 m.save, .bool m.lets, .bool m.waits, .int .i64 m.halt, (.slice A3m m.ins.length c3m), (.slice A4m m.outs.length c4m), .int .i64 m.count] 26 rfl
  generalize (w1.alloc (Obj.cells #[(.slice A1m m.regs.length c1m), .int .i64 m.pc, (.slice A2m m.mem.length c2m), .int .i64 m.save, .bool m.lets, .bool m.waits, .int .i64 m.halt, (.slice A3m m.ins.length c3m), (.slice A4m m.outs.length c4m), .int .i64 m.count] 26)) = w2 at *
  clear hb1_1
  obtain ⟨i0, hi, hz0, hz1, hz2⟩ := info_parts infInt
  have HI := hide hi
  have HZ0 := hide hz0
  have HZ1 := hide hz1
  have HZ2 := hide hz2
  clear hi hz0 hz1 hz2
  obtain ⟨i1, hi, hz0, hz1, hz2⟩ := info_parts infInsIns
  have JI := hide hi
  have JZ0 := hide hz0
  have JZ1 := hide hz1
  have JZ2 := hide hz2
  clear hi hz0 hz1 hz2
  cases q0 : mchOkB m
  · 
    have ym : w1.heap.size < w2.heap.size := by omega
    have xm0 := hBm_2 0 _ rfl
    have xm1 := hBm_2 1 _ rfl
    have xm2 := hBm_2 2 _ rfl
    have xm3 := hBm_2 3 _ rfl
    have xm4 := hBm_2 4 _ rfl
    have xm5 := hBm_2 5 _ rfl
    have xm6 := hBm_2 6 _ rfl
    have xm7 := hBm_2 7 _ rfl
    have xm8 := hBm_2 8 _ rfl
    have xm9 := hBm_2 9 _ rfl
    have fm := hFm_2
    go_wp2_with fail
    refine (specMchOk_any m _ _ _ _ _ (tm1.ext (Ext.hold hb1_2)) (tm2.ext (Ext.hold hb1_2)) (tm3.ext (Ext.hold hb1_2)) (tm4.ext (Ext.hold hb1_2))).mono ?_
    rintro e w3 ⟨rfl, hy⟩
    simp only [q0]
    clear xm0 xm1 xm2 xm3 xm4 xm5 xm6 xm7 xm8 xm9 ym
    clear fm
    have hb1_3 : Ext w1 w3 := Ext.trans (Ext.hold hb1_2) hy
    have hs3 := hy.size
    try simp at hs3
    have he3 : Ext w w3 := Ext.trans (Ext.hold he2) hy
    have hBm_3 : Bx w3 (w1.heap.size) [(.slice A1m m.regs.length c1m), .int .i64 m.pc, (.slice A2m m.mem.length c2m), .int .i64 m.save, .bool m.lets, .bool m.waits, .int .i64 m.halt, (.slice A3m m.ins.length c3m), (.slice A4m m.outs.length c4m), .int .i64 m.count] := hy.bx (Bx.hold hBm_2) (by first | omega | (simp; done) | (simp; omega))
    have hFm_3 : ∀ oo, w3.frozen? ⟨w1.heap.size, oo, none⟩ = false := fun oo => (hy.frozen (by first | omega | (simp; done) | (simp; omega))).trans ((fz_hold hFm_2) oo)
    try clear hBm_2 hFm_2
    clear hy hb1_2
    have ym : w1.heap.size < w3.heap.size := by omega
    have xm0 := hBm_3 0 _ rfl
    have xm1 := hBm_3 1 _ rfl
    have xm2 := hBm_3 2 _ rfl
    have xm3 := hBm_3 3 _ rfl
    have xm4 := hBm_3 4 _ rfl
    have xm5 := hBm_3 5 _ rfl
    have xm6 := hBm_3 6 _ rfl
    have xm7 := hBm_3 7 _ rfl
    have xm8 := hBm_3 8 _ rfl
    have xm9 := hBm_3 9 _ rfl
    have fm := hFm_3
    go_wp2_with (go_at_call 30; refine (laOk_any _).mono ?_; rintro e w' ⟨rfl, rfl⟩)
    go_ret
    exact ⟨rfl, Ext.hold he3⟩
  · 
    have ym : w1.heap.size < w2.heap.size := by omega
    have xm0 := hBm_2 0 _ rfl
    have xm1 := hBm_2 1 _ rfl
    have xm2 := hBm_2 2 _ rfl
    have xm3 := hBm_2 3 _ rfl
    have xm4 := hBm_2 4 _ rfl
    have xm5 := hBm_2 5 _ rfl
    have xm6 := hBm_2 6 _ rfl
    have xm7 := hBm_2 7 _ rfl
    have xm8 := hBm_2 8 _ rfl
    have xm9 := hBm_2 9 _ rfl
    have fm := hFm_2
    go_wp2_with fail
    refine (specMchOk_any m _ _ _ _ _ (tm1.ext (Ext.hold hb1_2)) (tm2.ext (Ext.hold hb1_2)) (tm3.ext (Ext.hold hb1_2)) (tm4.ext (Ext.hold hb1_2))).mono ?_
    rintro e w3 ⟨rfl, hy⟩
    simp only [q0]
    clear xm0 xm1 xm2 xm3 xm4 xm5 xm6 xm7 xm8 xm9 ym
    clear fm
    have hb1_3 : Ext w1 w3 := Ext.trans (Ext.hold hb1_2) hy
    have hs3 := hy.size
    try simp at hs3
    have he3 : Ext w w3 := Ext.trans (Ext.hold he2) hy
    have hBm_3 : Bx w3 (w1.heap.size) [(.slice A1m m.regs.length c1m), .int .i64 m.pc, (.slice A2m m.mem.length c2m), .int .i64 m.save, .bool m.lets, .bool m.waits, .int .i64 m.halt, (.slice A3m m.ins.length c3m), (.slice A4m m.outs.length c4m), .int .i64 m.count] := hy.bx (Bx.hold hBm_2) (by first | omega | (simp; done) | (simp; omega))
    have hFm_3 : ∀ oo, w3.frozen? ⟨w1.heap.size, oo, none⟩ = false := fun oo => (hy.frozen (by first | omega | (simp; done) | (simp; omega))).trans ((fz_hold hFm_2) oo)
    try clear hBm_2 hFm_2
    clear hy hb1_2
    have hk := mOk_iff.1 q0
    have HK := hide hk
    have hc0 := hk.c0
    have hc1 := hk.c1
    have hpc0 := hk.p0
    clear hk
    by_cases h1 : m.count = 1000000
    · 
      have q1 : (m.count == 1000000) = true := beq_iff_eq.2 h1
      clear h1
      have ym : w1.heap.size < w3.heap.size := by omega
      have xm0 := hBm_3 0 _ rfl
      have xm1 := hBm_3 1 _ rfl
      have xm2 := hBm_3 2 _ rfl
      have xm3 := hBm_3 3 _ rfl
      have xm4 := hBm_3 4 _ rfl
      have xm5 := hBm_3 5 _ rfl
      have xm6 := hBm_3 6 _ rfl
      have xm7 := hBm_3 7 _ rfl
      have xm8 := hBm_3 8 _ rfl
      have xm9 := hBm_3 9 _ rfl
      have fm := hFm_3
      go_wp2_with (go_at_call 30; refine (laOk_any _).mono ?_; rintro e w' ⟨rfl, rfl⟩)
      go_ret
      exact ⟨rfl, Ext.hold he3⟩
    · 
      have q1 : (m.count == 1000000) = false := beq_eq_false_iff_ne.2 h1
      have hcl : m.count < 1000000 := by omega
      clear h1
      have ym : w1.heap.size < w3.heap.size := by omega
      have xm0 := hBm_3 0 _ rfl
      have xm1 := hBm_3 1 _ rfl
      have xm2 := hBm_3 2 _ rfl
      have xm3 := hBm_3 3 _ rfl
      have xm4 := hBm_3 4 _ rfl
      have xm5 := hBm_3 5 _ rfl
      have xm6 := hBm_3 6 _ rfl
      have xm7 := hBm_3 7 _ rfl
      have xm8 := hBm_3 8 _ rfl
      have xm9 := hBm_3 9 _ rfl
      have fm := hFm_3
      go_upto_region 7 with fail
      clear xm0 xm1 xm2 xm3 xm4 xm5 xm6 xm7 xm8 xm9 ym
      clear fm
      clear q1
      have he4 : Ext w (w3.alloc (Obj.cells #[(.slice A1m m.regs.length c1m), .int .i64 m.pc, (.slice A2m m.mem.length c2m), .int .i64 m.save, .bool m.lets, .bool m.waits, .int .i64 m.halt, (.slice A3m m.ins.length c3m), (.slice A4m m.outs.length c4m), .int .i64 m.count] 26)) := Ext.hold he3
      have hs4 : w3.heap.size + 1 ≤ ((w3.alloc (Obj.cells #[(.slice A1m m.regs.length c1m), .int .i64 m.pc, (.slice A2m m.mem.length c2m), .int .i64 m.save, .bool m.lets, .bool m.waits, .int .i64 m.halt, (.slice A3m m.ins.length c3m), (.slice A4m m.outs.length c4m), .int .i64 m.count] 26))).heap.size := by simp
      have hb1_4 : Ext w1 (w3.alloc (Obj.cells #[(.slice A1m m.regs.length c1m), .int .i64 m.pc, (.slice A2m m.mem.length c2m), .int .i64 m.save, .bool m.lets, .bool m.waits, .int .i64 m.halt, (.slice A3m m.ins.length c3m), (.slice A4m m.outs.length c4m), .int .i64 m.count] 26)) := Ext.hold hb1_3
      have hBm_4 : Bx (w3.alloc (Obj.cells #[(.slice A1m m.regs.length c1m), .int .i64 m.pc, (.slice A2m m.mem.length c2m), .int .i64 m.save, .bool m.lets, .bool m.waits, .int .i64 m.halt, (.slice A3m m.ins.length c3m), (.slice A4m m.outs.length c4m), .int .i64 m.count] 26)) (w1.heap.size) [(.slice A1m m.regs.length c1m), .int .i64 m.pc, (.slice A2m m.mem.length c2m), .int .i64 m.save, .bool m.lets, .bool m.waits, .int .i64 m.halt, (.slice A3m m.ins.length c3m), (.slice A4m m.outs.length c4m), .int .i64 m.count] := Bx.hold hBm_3
      have hFm_4 : ∀ oo, (w3.alloc (Obj.cells #[(.slice A1m m.regs.length c1m), .int .i64 m.pc, (.slice A2m m.mem.length c2m), .int .i64 m.save, .bool m.lets, .bool m.waits, .int .i64 m.halt, (.slice A3m m.ins.length c3m), (.slice A4m m.outs.length c4m), .int .i64 m.count] 26)).frozen? ⟨w1.heap.size, oo, none⟩ = false := fz_hold hFm_3
      have hBx_4 : Bx (w3.alloc (Obj.cells #[(.slice A1m m.regs.length c1m), .int .i64 m.pc, (.slice A2m m.mem.length c2m), .int .i64 m.save, .bool m.lets, .bool m.waits, .int .i64 m.halt, (.slice A3m m.ins.length c3m), (.slice A4m m.outs.length c4m), .int .i64 m.count] 26)) (w3.heap.size) [(.slice A1m m.regs.length c1m), .int .i64 m.pc, (.slice A2m m.mem.length c2m), .int .i64 m.save, .bool m.lets, .bool m.waits, .int .i64 m.halt, (.slice A3m m.ins.length c3m), (.slice A4m m.outs.length c4m), .int .i64 m.count] := Bx.new w3 #[(.slice A1m m.regs.length c1m), .int .i64 m.pc, (.slice A2m m.mem.length c2m), .int .i64 m.save, .bool m.lets, .bool m.waits, .int .i64 m.halt, (.slice A3m m.ins.length c3m), (.slice A4m m.outs.length c4m), .int .i64 m.count] 26
      have hFx_4 : ∀ oo, (w3.alloc (Obj.cells #[(.slice A1m m.regs.length c1m), .int .i64 m.pc, (.slice A2m m.mem.length c2m), .int .i64 m.save, .bool m.lets, .bool m.waits, .int .i64 m.halt, (.slice A3m m.ins.length c3m), (.slice A4m m.outs.length c4m), .int .i64 m.count] 26)).frozen? ⟨w3.heap.size, oo, none⟩ = false := fz_new w3 #[(.slice A1m m.regs.length c1m), .int .i64 m.pc, (.slice A2m m.mem.length c2m), .int .i64 m.save, .bool m.lets, .bool m.waits, .int .i64 m.halt, (.slice A3m m.ins.length c3m), (.slice A4m m.outs.length c4m), .int .i64 m.count] 26 rfl
      generalize (w3.alloc (Obj.cells #[(.slice A1m m.regs.length c1m), .int .i64 m.pc, (.slice A2m m.mem.length c2m), .int .i64 m.save, .bool m.lets, .bool m.waits, .int .i64 m.halt, (.slice A3m m.ins.length c3m), (.slice A4m m.outs.length c4m), .int .i64 m.count] 26)) = w4 at *
      clear hBm_3 hFm_3 hb1_3
      have ym : w1.heap.size < w4.heap.size := by omega
      have xm0 := hBm_4 0 _ rfl
      have xm1 := hBm_4 1 _ rfl
      have xm2 := hBm_4 2 _ rfl
      have xm3 := hBm_4 3 _ rfl
      have xm4 := hBm_4 4 _ rfl
      have xm5 := hBm_4 5 _ rfl
      have xm6 := hBm_4 6 _ rfl
      have xm7 := hBm_4 7 _ rfl
      have xm8 := hBm_4 8 _ rfl
      have xm9 := hBm_4 9 _ rfl
      have fm := hFm_4
      have yx : w3.heap.size < w4.heap.size := by omega
      have xx0 := hBx_4 0 _ rfl
      have xx1 := hBx_4 1 _ rfl
      have xx2 := hBx_4 2 _ rfl
      have xx3 := hBx_4 3 _ rfl
      have xx4 := hBx_4 4 _ rfl
      have xx5 := hBx_4 5 _ rfl
      have xx6 := hBx_4 6 _ rfl
      have xx7 := hBx_4 7 _ rfl
      have xx8 := hBx_4 8 _ rfl
      have xx9 := hBx_4 9 _ rfl
      have fx := hFx_4
      go_upto_region 8 with fail
      clear xm0 xm1 xm2 xm3 xm4 xm5 xm6 xm7 xm8 xm9 ym
      clear fm
      clear xx0 xx1 xx2 xx3 xx4 xx5 xx6 xx7 xx8 xx9 yx
      clear fx
      have he5 : Ext w (w4.setCell ⟨w3.heap.size, 6, none⟩ (.int .i64 0)) := Ext.hold he4
      have hs5 : w4.heap.size + 0 ≤ ((w4.setCell ⟨w3.heap.size, 6, none⟩ (.int .i64 0))).heap.size := by simp
      have hb1_5 : Ext w1 (w4.setCell ⟨w3.heap.size, 6, none⟩ (.int .i64 0)) := Ext.hold hb1_4
      have hBm_5 : Bx (w4.setCell ⟨w3.heap.size, 6, none⟩ (.int .i64 0)) (w1.heap.size) [(.slice A1m m.regs.length c1m), .int .i64 m.pc, (.slice A2m m.mem.length c2m), .int .i64 m.save, .bool m.lets, .bool m.waits, .int .i64 m.halt, (.slice A3m m.ins.length c3m), (.slice A4m m.outs.length c4m), .int .i64 m.count] := Bx.hold hBm_4
      have hFm_5 : ∀ oo, (w4.setCell ⟨w3.heap.size, 6, none⟩ (.int .i64 0)).frozen? ⟨w1.heap.size, oo, none⟩ = false := fz_hold hFm_4
      have hBx_5 : Bx (w4.setCell ⟨w3.heap.size, 6, none⟩ (.int .i64 0)) (w3.heap.size) [(.slice A1m m.regs.length c1m), .int .i64 m.pc, (.slice A2m m.mem.length c2m), .int .i64 m.save, .bool m.lets, .bool m.waits, .int .i64 0, (.slice A3m m.ins.length c3m), (.slice A4m m.outs.length c4m), .int .i64 m.count] := (by have := Bx.put hBx_4 (j := 6) (by simp) (.int .i64 0); simpa using this : Bx (w4.setCell ⟨w3.heap.size, 6, none⟩ (.int .i64 0)) (w3.heap.size) [(.slice A1m m.regs.length c1m), .int .i64 m.pc, (.slice A2m m.mem.length c2m), .int .i64 m.save, .bool m.lets, .bool m.waits, .int .i64 0, (.slice A3m m.ins.length c3m), (.slice A4m m.outs.length c4m), .int .i64 m.count])
      have hFx_5 : ∀ oo, (w4.setCell ⟨w3.heap.size, 6, none⟩ (.int .i64 0)).frozen? ⟨w3.heap.size, oo, none⟩ = false := fz_hold hFx_4
      generalize (w4.setCell ⟨w3.heap.size, 6, none⟩ (.int .i64 0)) = w5 at *
      clear hBm_4 hFm_4 hBx_4 hFx_4 hb1_4
      have ym : w1.heap.size < w5.heap.size := by omega
      have xm0 := hBm_5 0 _ rfl
      have xm1 := hBm_5 1 _ rfl
      have xm2 := hBm_5 2 _ rfl
      have xm3 := hBm_5 3 _ rfl
      have xm4 := hBm_5 4 _ rfl
      have xm5 := hBm_5 5 _ rfl
      have xm6 := hBm_5 6 _ rfl
      have xm7 := hBm_5 7 _ rfl
      have xm8 := hBm_5 8 _ rfl
      have xm9 := hBm_5 9 _ rfl
      have fm := hFm_5
      have yx : w3.heap.size < w5.heap.size := by omega
      have xx0 := hBx_5 0 _ rfl
      have xx1 := hBx_5 1 _ rfl
      have xx2 := hBx_5 2 _ rfl
      have xx3 := hBx_5 3 _ rfl
      have xx4 := hBx_5 4 _ rfl
      have xx5 := hBx_5 5 _ rfl
      have xx6 := hBx_5 6 _ rfl
      have xx7 := hBx_5 7 _ rfl
      have xx8 := hBx_5 8 _ rfl
      have xx9 := hBx_5 9 _ rfl
      have fx := hFx_5
      go_upto_region 9 with fail
      clear xm0 xm1 xm2 xm3 xm4 xm5 xm6 xm7 xm8 xm9 ym
      clear fm
      clear xx0 xx1 xx2 xx3 xx4 xx5 xx6 xx7 xx8 xx9 yx
      clear fx
      have he6 : Ext w (w5.setCell ⟨w3.heap.size, 4, none⟩ (.bool true)) := Ext.hold he5
      have hs6 : w5.heap.size + 0 ≤ ((w5.setCell ⟨w3.heap.size, 4, none⟩ (.bool true))).heap.size := by simp
      have hb1_6 : Ext w1 (w5.setCell ⟨w3.heap.size, 4, none⟩ (.bool true)) := Ext.hold hb1_5
      have hBm_6 : Bx (w5.setCell ⟨w3.heap.size, 4, none⟩ (.bool true)) (w1.heap.size) [(.slice A1m m.regs.length c1m), .int .i64 m.pc, (.slice A2m m.mem.length c2m), .int .i64 m.save, .bool m.lets, .bool m.waits, .int .i64 m.halt, (.slice A3m m.ins.length c3m), (.slice A4m m.outs.length c4m), .int .i64 m.count] := Bx.hold hBm_5
      have hFm_6 : ∀ oo, (w5.setCell ⟨w3.heap.size, 4, none⟩ (.bool true)).frozen? ⟨w1.heap.size, oo, none⟩ = false := fz_hold hFm_5
      have hBx_6 : Bx (w5.setCell ⟨w3.heap.size, 4, none⟩ (.bool true)) (w3.heap.size) [(.slice A1m m.regs.length c1m), .int .i64 m.pc, (.slice A2m m.mem.length c2m), .int .i64 m.save, .bool true, .bool m.waits, .int .i64 0, (.slice A3m m.ins.length c3m), (.slice A4m m.outs.length c4m), .int .i64 m.count] := (by have := Bx.put hBx_5 (j := 4) (by simp) (.bool true); simpa using this : Bx (w5.setCell ⟨w3.heap.size, 4, none⟩ (.bool true)) (w3.heap.size) [(.slice A1m m.regs.length c1m), .int .i64 m.pc, (.slice A2m m.mem.length c2m), .int .i64 m.save, .bool true, .bool m.waits, .int .i64 0, (.slice A3m m.ins.length c3m), (.slice A4m m.outs.length c4m), .int .i64 m.count])
      have hFx_6 : ∀ oo, (w5.setCell ⟨w3.heap.size, 4, none⟩ (.bool true)).frozen? ⟨w3.heap.size, oo, none⟩ = false := fz_hold hFx_5
      generalize (w5.setCell ⟨w3.heap.size, 4, none⟩ (.bool true)) = w6 at *
      clear hBm_5 hFm_5 hBx_5 hFx_5 hb1_5
      have ym : w1.heap.size < w6.heap.size := by omega
      have xm0 := hBm_6 0 _ rfl
      have xm1 := hBm_6 1 _ rfl
      have xm2 := hBm_6 2 _ rfl
      have xm3 := hBm_6 3 _ rfl
      have xm4 := hBm_6 4 _ rfl
      have xm5 := hBm_6 5 _ rfl
      have xm6 := hBm_6 6 _ rfl
      have xm7 := hBm_6 7 _ rfl
      have xm8 := hBm_6 8 _ rfl
      have xm9 := hBm_6 9 _ rfl
      have fm := hFm_6
      have yx : w3.heap.size < w6.heap.size := by omega
      have xx0 := hBx_6 0 _ rfl
      have xx1 := hBx_6 1 _ rfl
      have xx2 := hBx_6 2 _ rfl
      have xx3 := hBx_6 3 _ rfl
      have xx4 := hBx_6 4 _ rfl
      have xx5 := hBx_6 5 _ rfl
      have xx6 := hBx_6 6 _ rfl
      have xx7 := hBx_6 7 _ rfl
      have xx8 := hBx_6 8 _ rfl
      have xx9 := hBx_6 9 _ rfl
      have fx := hFx_6
      go_upto_region 10 with fail
      clear xm0 xm1 xm2 xm3 xm4 xm5 xm6 xm7 xm8 xm9 ym
      clear fm
      clear xx0 xx1 xx2 xx3 xx4 xx5 xx6 xx7 xx8 xx9 yx
      clear fx
      have he7 : Ext w (w6.setCell ⟨w3.heap.size, 5, none⟩ (.bool false)) := Ext.hold he6
      have hs7 : w6.heap.size + 0 ≤ ((w6.setCell ⟨w3.heap.size, 5, none⟩ (.bool false))).heap.size := by simp
      have hb1_7 : Ext w1 (w6.setCell ⟨w3.heap.size, 5, none⟩ (.bool false)) := Ext.hold hb1_6
      have hBm_7 : Bx (w6.setCell ⟨w3.heap.size, 5, none⟩ (.bool false)) (w1.heap.size) [(.slice A1m m.regs.length c1m), .int .i64 m.pc, (.slice A2m m.mem.length c2m), .int .i64 m.save, .bool m.lets, .bool m.waits, .int .i64 m.halt, (.slice A3m m.ins.length c3m), (.slice A4m m.outs.length c4m), .int .i64 m.count] := Bx.hold hBm_6
      have hFm_7 : ∀ oo, (w6.setCell ⟨w3.heap.size, 5, none⟩ (.bool false)).frozen? ⟨w1.heap.size, oo, none⟩ = false := fz_hold hFm_6
      have hBx_7 : Bx (w6.setCell ⟨w3.heap.size, 5, none⟩ (.bool false)) (w3.heap.size) [(.slice A1m m.regs.length c1m), .int .i64 m.pc, (.slice A2m m.mem.length c2m), .int .i64 m.save, .bool true, .bool false, .int .i64 0, (.slice A3m m.ins.length c3m), (.slice A4m m.outs.length c4m), .int .i64 m.count] := (by have := Bx.put hBx_6 (j := 5) (by simp) (.bool false); simpa using this : Bx (w6.setCell ⟨w3.heap.size, 5, none⟩ (.bool false)) (w3.heap.size) [(.slice A1m m.regs.length c1m), .int .i64 m.pc, (.slice A2m m.mem.length c2m), .int .i64 m.save, .bool true, .bool false, .int .i64 0, (.slice A3m m.ins.length c3m), (.slice A4m m.outs.length c4m), .int .i64 m.count])
      have hFx_7 : ∀ oo, (w6.setCell ⟨w3.heap.size, 5, none⟩ (.bool false)).frozen? ⟨w3.heap.size, oo, none⟩ = false := fz_hold hFx_6
      generalize (w6.setCell ⟨w3.heap.size, 5, none⟩ (.bool false)) = w7 at *
      clear hBm_6 hFm_6 hBx_6 hFx_6 hb1_6
      have hml0 : 0 < m.mem.length := by have := HK.out.ml; omega
      have ym : w1.heap.size < w7.heap.size := by omega
      have xm0 := hBm_7 0 _ rfl
      have xm1 := hBm_7 1 _ rfl
      have xm2 := hBm_7 2 _ rfl
      have xm3 := hBm_7 3 _ rfl
      have xm4 := hBm_7 4 _ rfl
      have xm5 := hBm_7 5 _ rfl
      have xm6 := hBm_7 6 _ rfl
      have xm7 := hBm_7 7 _ rfl
      have xm8 := hBm_7 8 _ rfl
      have xm9 := hBm_7 9 _ rfl
      have fm := hFm_7
      have yx : w3.heap.size < w7.heap.size := by omega
      have xx0 := hBx_7 0 _ rfl
      have xx1 := hBx_7 1 _ rfl
      have xx2 := hBx_7 2 _ rfl
      have xx3 := hBx_7 3 _ rfl
      have xx4 := hBx_7 4 _ rfl
      have xx5 := hBx_7 5 _ rfl
      have xx6 := hBx_7 6 _ rfl
      have xx7 := hBx_7 7 _ rfl
      have xx8 := hBx_7 8 _ rfl
      have xx9 := hBx_7 9 _ rfl
      have fx := hFx_7
      go_upto_region 11 with (at_builtin; go_must (refine wpList_append_flat2 (α := Int) (w0 := w7) rfl _ _ 22 rfl i0 _ 8 Tryd.underlying22 HI.out HZ0.out HZ1.out HZ2.out rfl (App.emptyAt w7 3 _ (by first | rfl | simp)) rfl _ m.mem _ rfl (tm2.ext (Ext.hold hb1_7)) (by unfold maxLen; simp; omega) (by simp; omega) ?_); intro v' w8 Fs' xs' hA9 hg9 hb9; simp only [List.nil_append] at hA9; obtain ⟨g, cap, rfl, hgc, hgm, hgl, hRx⟩ := hA9.toRow hml0; have hyq := hA9.ext; have hxq := hyq.bx hBx_7 yx; have fxq := fun oo => (hyq.frozen yx).trans (hFx_7 oo); have yxq := Nat.lt_of_lt_of_le yx hyq.size; have xz0 := hxq 0 _ rfl; have xz1 := hxq 1 _ rfl; have xz2 := hxq 2 _ rfl; have xz3 := hxq 3 _ rfl; have xz4 := hxq 4 _ rfl; have xz5 := hxq 5 _ rfl; have xz6 := hxq 6 _ rfl; have xz7 := hxq 7 _ rfl; have xz8 := hxq 8 _ rfl; have xz9 := hxq 9 _ rfl)
      clear xm0 xm1 xm2 xm3 xm4 xm5 xm6 xm7 xm8 xm9 ym
      clear fm
      clear xx0 xx1 xx2 xx3 xx4 xx5 xx6 xx7 xx8 xx9 yx
      clear fx
      clear fxq yxq hxq hg9 hb9 hA9 xz0 xz1 xz2 xz3 xz4 xz5 xz6 xz7 xz8 xz9
      have hy := hyq
      clear hyq
      have hb1_8 : Ext w1 w8 := Ext.trans (Ext.hold hb1_7) hy
      have hs8 := hy.size
      try simp at hs8
      have he8 : Ext w w8 := Ext.trans (Ext.hold he7) hy
      have hBm_8 : Bx w8 (w1.heap.size) [(.slice A1m m.regs.length c1m), .int .i64 m.pc, (.slice A2m m.mem.length c2m), .int .i64 m.save, .bool m.lets, .bool m.waits, .int .i64 m.halt, (.slice A3m m.ins.length c3m), (.slice A4m m.outs.length c4m), .int .i64 m.count] := hy.bx (Bx.hold hBm_7) (by first | omega | (simp; done) | (simp; omega))
      have hFm_8 : ∀ oo, w8.frozen? ⟨w1.heap.size, oo, none⟩ = false := fun oo => (hy.frozen (by first | omega | (simp; done) | (simp; omega))).trans ((fz_hold hFm_7) oo)
      have hBx_8 : Bx w8 (w3.heap.size) [(.slice A1m m.regs.length c1m), .int .i64 m.pc, (.slice A2m m.mem.length c2m), .int .i64 m.save, .bool true, .bool false, .int .i64 0, (.slice A3m m.ins.length c3m), (.slice A4m m.outs.length c4m), .int .i64 m.count] := hy.bx (Bx.hold hBx_7) (by first | omega | (simp; done) | (simp; omega))
      have hFx_8 : ∀ oo, w8.frozen? ⟨w3.heap.size, oo, none⟩ = false := fun oo => (hy.frozen (by first | omega | (simp; done) | (simp; omega))).trans ((fz_hold hFx_7) oo)
      try clear hBm_7 hFm_7 hBx_7 hFx_7
      clear hy hb1_7
      have hRx2 := hRx.far (p := ⟨w3.heap.size, 2, none⟩) (by show w3.heap.size ≠ g; omega) (.slice (some ⟨g, 0, none⟩) m.mem.length cap)
      clear hRx
      have hRx := hRx2
      clear hRx2
      have he9 : Ext w (w8.setCell ⟨w3.heap.size, 2, none⟩ (.slice (some ⟨g, 0, none⟩) m.mem.length cap)) := Ext.hold he8
      have hs9 : w8.heap.size + 0 ≤ ((w8.setCell ⟨w3.heap.size, 2, none⟩ (.slice (some ⟨g, 0, none⟩) m.mem.length cap))).heap.size := by simp
      have hb1_9 : Ext w1 (w8.setCell ⟨w3.heap.size, 2, none⟩ (.slice (some ⟨g, 0, none⟩) m.mem.length cap)) := Ext.hold hb1_8
      have hBm_9 : Bx (w8.setCell ⟨w3.heap.size, 2, none⟩ (.slice (some ⟨g, 0, none⟩) m.mem.length cap)) (w1.heap.size) [(.slice A1m m.regs.length c1m), .int .i64 m.pc, (.slice A2m m.mem.length c2m), .int .i64 m.save, .bool m.lets, .bool m.waits, .int .i64 m.halt, (.slice A3m m.ins.length c3m), (.slice A4m m.outs.length c4m), .int .i64 m.count] := Bx.hold hBm_8
      have hFm_9 : ∀ oo, (w8.setCell ⟨w3.heap.size, 2, none⟩ (.slice (some ⟨g, 0, none⟩) m.mem.length cap)).frozen? ⟨w1.heap.size, oo, none⟩ = false := fz_hold hFm_8
      have hBx_9 : Bx (w8.setCell ⟨w3.heap.size, 2, none⟩ (.slice (some ⟨g, 0, none⟩) m.mem.length cap)) (w3.heap.size) [(.slice A1m m.regs.length c1m), .int .i64 m.pc, .slice (some ⟨g, 0, none⟩) m.mem.length cap, .int .i64 m.save, .bool true, .bool false, .int .i64 0, (.slice A3m m.ins.length c3m), (.slice A4m m.outs.length c4m), .int .i64 m.count] := (by have := Bx.put hBx_8 (j := 2) (by simp) (.slice (some ⟨g, 0, none⟩) m.mem.length cap); simpa using this : Bx (w8.setCell ⟨w3.heap.size, 2, none⟩ (.slice (some ⟨g, 0, none⟩) m.mem.length cap)) (w3.heap.size) [(.slice A1m m.regs.length c1m), .int .i64 m.pc, .slice (some ⟨g, 0, none⟩) m.mem.length cap, .int .i64 m.save, .bool true, .bool false, .int .i64 0, (.slice A3m m.ins.length c3m), (.slice A4m m.outs.length c4m), .int .i64 m.count])
      have hFx_9 : ∀ oo, (w8.setCell ⟨w3.heap.size, 2, none⟩ (.slice (some ⟨g, 0, none⟩) m.mem.length cap)).frozen? ⟨w3.heap.size, oo, none⟩ = false := fz_hold hFx_8
      generalize (w8.setCell ⟨w3.heap.size, 2, none⟩ (.slice (some ⟨g, 0, none⟩) m.mem.length cap)) = w9 at *
      clear hBm_8 hFm_8 hBx_8 hFx_8 hb1_8
      have ym : w1.heap.size < w9.heap.size := by omega
      have xm0 := hBm_9 0 _ rfl
      have xm1 := hBm_9 1 _ rfl
      have xm2 := hBm_9 2 _ rfl
      have xm3 := hBm_9 3 _ rfl
      have xm4 := hBm_9 4 _ rfl
      have xm5 := hBm_9 5 _ rfl
      have xm6 := hBm_9 6 _ rfl
      have xm7 := hBm_9 7 _ rfl
      have xm8 := hBm_9 8 _ rfl
      have xm9 := hBm_9 9 _ rfl
      have fm := hFm_9
      have yx : w3.heap.size < w9.heap.size := by omega
      have xx0 := hBx_9 0 _ rfl
      have xx1 := hBx_9 1 _ rfl
      have xx2 := hBx_9 2 _ rfl
      have xx3 := hBx_9 3 _ rfl
      have xx4 := hBx_9 4 _ rfl
      have xx5 := hBx_9 5 _ rfl
      have xx6 := hBx_9 6 _ rfl
      have xx7 := hBx_9 7 _ rfl
      have xx8 := hBx_9 8 _ rfl
      have xx9 := hBx_9 9 _ rfl
      have fx := hFx_9
      go_upto_region 11 with fail
      have hS : ∀ w', Ext w9 w' → ∀ bb oo, bb < w9.heap.size → w'.cell? ⟨bb, oo, none⟩ = w9.cell? ⟨bb, oo, none⟩ := fun w' hx bb oo hb => hx.cell hb
      refine wp_region_plan (fun w' => Ext w9 w') 4 (.float 0 (.float 1 (.float 2 (.chain 3 (.tail 4))))) (by kernel_rfl) (by kernel_rfl) (Ext.refl _).drew ?_
      iterate 3 ((refine Plan.float_step (v := ?_) rfl (by rfl) (fun _ _ _ h => h) (fun w' hSw => ?_) ?_; rotate_left; · (go_simp; try with_reducible rfl)); (try simp only [Act.put, List.setIfInBounds_toArray, List.set_cons_zero, List.set_cons_succ]))
      refine Plan.chain_step rfl (fun K hK => ?_)
      go_simp
      refine (implInsPut_any ⟨0, 0, 0, 1⟩ _ lf (hF.ext (Ext.hold he9))).mono ?_
      rintro e w10 ⟨rfl, hy⟩
      have hRx2 := (hRx.ext (show Ext w9 w9.drew from Ext.auto)).ext hy
      clear hRx
      have hRx := hRx2
      clear hRx2
      refine hK.out _ _ (Ext.trans Ext.auto hy) ?_
      clear hK
      (try simp only [Act.put, List.setIfInBounds_toArray, List.set_cons_zero, List.set_cons_succ])
      have hb9_9 : Ext w9 w9 := Ext.refl _
      have hb1_10 : Ext w1 w10 := Ext.trans (Ext.hold hb1_9) hy
      have hb9_10 : Ext w9 w10 := Ext.trans (Ext.hold hb9_9) hy
      have hs10 := hy.size
      try simp at hs10
      have he10 : Ext w w10 := Ext.trans (Ext.hold he9) hy
      have hBm_10 : Bx w10 (w1.heap.size) [(.slice A1m m.regs.length c1m), .int .i64 m.pc, (.slice A2m m.mem.length c2m), .int .i64 m.save, .bool m.lets, .bool m.waits, .int .i64 m.halt, (.slice A3m m.ins.length c3m), (.slice A4m m.outs.length c4m), .int .i64 m.count] := hy.bx (Bx.hold hBm_9) (by first | omega | (simp; done) | (simp; omega))
      have hFm_10 : ∀ oo, w10.frozen? ⟨w1.heap.size, oo, none⟩ = false := fun oo => (hy.frozen (by first | omega | (simp; done) | (simp; omega))).trans ((fz_hold hFm_9) oo)
      have hBx_10 : Bx w10 (w3.heap.size) [(.slice A1m m.regs.length c1m), .int .i64 m.pc, .slice (some ⟨g, 0, none⟩) m.mem.length cap, .int .i64 m.save, .bool true, .bool false, .int .i64 0, (.slice A3m m.ins.length c3m), (.slice A4m m.outs.length c4m), .int .i64 m.count] := hy.bx (Bx.hold hBx_9) (by first | omega | (simp; done) | (simp; omega))
      have hFx_10 : ∀ oo, w10.frozen? ⟨w3.heap.size, oo, none⟩ = false := fun oo => (hy.frozen (by first | omega | (simp; done) | (simp; omega))).trans ((fz_hold hFx_9) oo)
      try clear hBm_9 hFm_9 hBx_9 hFx_9
      clear hy hb1_9 hb9_9
      refine Plan.tail_step ?_
      simp only [List.drop_succ_cons, List.drop_zero]
      clear hS
      clear xm0 xm1 xm2 xm3 xm4 xm5 xm6 xm7 xm8 xm9 ym
      clear fm
      clear xx0 xx1 xx2 xx3 xx4 xx5 xx6 xx7 xx8 xx9 yx
      clear fx
      have hat : 48 < m.mem.length := by have := HK.out.ml; omega
      have hpw := insPut_word ⟨0, 0, 0, 1⟩
      have hpf : Fits (insPut ⟨0, 0, 0, 1⟩) := by unfold Fits; omega
      have hce := hRx.int0 hat
      have hfz := hRx.fz
      have hgw : g < w10.heap.size := hRx.lt
      have hRn := hRx.setInt0 hat _ hpf
      have z0 : (48 : Int) < (m.mem.length : Int) := by omega
      have ym : w1.heap.size < w10.heap.size := by omega
      have xm0 := hBm_10 0 _ rfl
      have xm1 := hBm_10 1 _ rfl
      have xm2 := hBm_10 2 _ rfl
      have xm3 := hBm_10 3 _ rfl
      have xm4 := hBm_10 4 _ rfl
      have xm5 := hBm_10 5 _ rfl
      have xm6 := hBm_10 6 _ rfl
      have xm7 := hBm_10 7 _ rfl
      have xm8 := hBm_10 8 _ rfl
      have xm9 := hBm_10 9 _ rfl
      have fm := hFm_10
      have yx : w3.heap.size < w10.heap.size := by omega
      have xx0 := hBx_10 0 _ rfl
      have xx1 := hBx_10 1 _ rfl
      have xx2 := hBx_10 2 _ rfl
      have xx3 := hBx_10 3 _ rfl
      have xx4 := hBx_10 4 _ rfl
      have xx5 := hBx_10 5 _ rfl
      have xx6 := hBx_10 6 _ rfl
      have xx7 := hBx_10 7 _ rfl
      have xx8 := hBx_10 8 _ rfl
      have xx9 := hBx_10 9 _ rfl
      have fx := hFx_10
      go_upto_region 12 with fail
      clear xm0 xm1 xm2 xm3 xm4 xm5 xm6 xm7 xm8 xm9 ym
      clear fm
      clear xx0 xx1 xx2 xx3 xx4 xx5 xx6 xx7 xx8 xx9 yx
      clear fx
      clear hce hfz z0
      have he11 : Ext w (w10.setCell ⟨g, 48, none⟩ (.int .i64 (insPut ⟨0, 0, 0, 1⟩))) := Ext.hold he10
      have hs11 : w10.heap.size + 0 ≤ ((w10.setCell ⟨g, 48, none⟩ (.int .i64 (insPut ⟨0, 0, 0, 1⟩)))).heap.size := by simp
      have hb1_11 : Ext w1 (w10.setCell ⟨g, 48, none⟩ (.int .i64 (insPut ⟨0, 0, 0, 1⟩))) := Ext.hold hb1_10
      have hBm_11 : Bx (w10.setCell ⟨g, 48, none⟩ (.int .i64 (insPut ⟨0, 0, 0, 1⟩))) (w1.heap.size) [(.slice A1m m.regs.length c1m), .int .i64 m.pc, (.slice A2m m.mem.length c2m), .int .i64 m.save, .bool m.lets, .bool m.waits, .int .i64 m.halt, (.slice A3m m.ins.length c3m), (.slice A4m m.outs.length c4m), .int .i64 m.count] := Bx.hold hBm_10
      have hFm_11 : ∀ oo, (w10.setCell ⟨g, 48, none⟩ (.int .i64 (insPut ⟨0, 0, 0, 1⟩))).frozen? ⟨w1.heap.size, oo, none⟩ = false := fz_hold hFm_10
      have hBx_11 : Bx (w10.setCell ⟨g, 48, none⟩ (.int .i64 (insPut ⟨0, 0, 0, 1⟩))) (w3.heap.size) [(.slice A1m m.regs.length c1m), .int .i64 m.pc, .slice (some ⟨g, 0, none⟩) m.mem.length cap, .int .i64 m.save, .bool true, .bool false, .int .i64 0, (.slice A3m m.ins.length c3m), (.slice A4m m.outs.length c4m), .int .i64 m.count] := Bx.hold hBx_10
      have hFx_11 : ∀ oo, (w10.setCell ⟨g, 48, none⟩ (.int .i64 (insPut ⟨0, 0, 0, 1⟩))).frozen? ⟨w3.heap.size, oo, none⟩ = false := fz_hold hFx_10
      generalize (w10.setCell ⟨g, 48, none⟩ (.int .i64 (insPut ⟨0, 0, 0, 1⟩))) = w11 at *
      clear hBm_10 hFm_10 hBx_10 hFx_10 hb1_10
      have hxs := hRn.sl (n := m.mem.length) (c := cap) (by rw [List.length_set]) (by rw [List.length_set]; exact hgc) hgm
      have hbk := backM_step HK.out hcl
      obtain ⟨y, hyy⟩ : ∃ y : MchMach, y = { backM m with save := m.pc, count := m.count + 1 } := ⟨_, rfl⟩
      rw [← hyy] at hbk
      have HBK := hide hbk
      have qyy : decide (({ backM m with save := m.pc, count := m.count + 1 } : MchMach) = y) = true := decide_eq_true hyy.symm
      have HYY := hide qyy
      clear hbk hyy qyy
      have ym : w1.heap.size < w11.heap.size := by omega
      have xm0 := hBm_11 0 _ rfl
      have xm1 := hBm_11 1 _ rfl
      have xm2 := hBm_11 2 _ rfl
      have xm3 := hBm_11 3 _ rfl
      have xm4 := hBm_11 4 _ rfl
      have xm5 := hBm_11 5 _ rfl
      have xm6 := hBm_11 6 _ rfl
      have xm7 := hBm_11 7 _ rfl
      have xm8 := hBm_11 8 _ rfl
      have xm9 := hBm_11 9 _ rfl
      have fm := hFm_11
      have yx : w3.heap.size < w11.heap.size := by omega
      have xx0 := hBx_11 0 _ rfl
      have xx1 := hBx_11 1 _ rfl
      have xx2 := hBx_11 2 _ rfl
      have xx3 := hBx_11 3 _ rfl
      have xx4 := hBx_11 4 _ rfl
      have xx5 := hBx_11 5 _ rfl
      have xx6 := hBx_11 6 _ rfl
      have xx7 := hBx_11 7 _ rfl
      have xx8 := hBx_11 8 _ rfl
      have xx9 := hBx_11 9 _ rfl
      have fx := hFx_11
      go_wp2_with fail
      refine (implStep_n (backM m) true _ _ _ _ _ (tm1.ext (Ext.hold hb1_11)) hxs (tm3.ext (Ext.hold hb1_11)) (tm4.ext (Ext.hold hb1_11)) (by show m.regs.length ≤ _; omega) (by show (m.mem.set _ _).length ≤ _; rw [List.length_set]; omega) (by show m.ins.length ≤ _; omega) (by show m.outs.length ≤ _; omega) (by show m.outs.length ≤ _; omega) lf (hF.ext (Ext.hold he11))).mono ?_
      intro e w12 hr
      rw [HBK.out] at hr
      unfold MRetN at hr
      obtain ⟨A1y, A2y, A3y, A4y, c1y, c2y, c3y, c4y, rfl, ty1, ty2, ty3, ty4, hy⟩ := hr
      clear xm0 xm1 xm2 xm3 xm4 xm5 xm6 xm7 xm8 xm9 ym
      clear fm
      clear xx0 xx1 xx2 xx3 xx4 xx5 xx6 xx7 xx8 xx9 yx
      clear fx
      have hb1_12 : Ext w1 w12 := Ext.trans (Ext.hold hb1_11) hy
      have hRn2 := FRow.ext (FRow.hold hRn) hy
      clear hRn
      have hRn := hRn2
      clear hRn2
      have hs12 := hy.size
      try simp at hs12
      have he12 : Ext w w12 := Ext.trans (Ext.hold he11) hy
      have hBm_12 : Bx w12 (w1.heap.size) [(.slice A1m m.regs.length c1m), .int .i64 m.pc, (.slice A2m m.mem.length c2m), .int .i64 m.save, .bool m.lets, .bool m.waits, .int .i64 m.halt, (.slice A3m m.ins.length c3m), (.slice A4m m.outs.length c4m), .int .i64 m.count] := hy.bx (Bx.hold hBm_11) (by first | omega | (simp; done) | (simp; omega))
      have hFm_12 : ∀ oo, w12.frozen? ⟨w1.heap.size, oo, none⟩ = false := fun oo => (hy.frozen (by first | omega | (simp; done) | (simp; omega))).trans ((fz_hold hFm_11) oo)
      have hBx_12 : Bx w12 (w3.heap.size) [(.slice A1m m.regs.length c1m), .int .i64 m.pc, .slice (some ⟨g, 0, none⟩) m.mem.length cap, .int .i64 m.save, .bool true, .bool false, .int .i64 0, (.slice A3m m.ins.length c3m), (.slice A4m m.outs.length c4m), .int .i64 m.count] := hy.bx (Bx.hold hBx_11) (by first | omega | (simp; done) | (simp; omega))
      have hFx_12 : ∀ oo, w12.frozen? ⟨w3.heap.size, oo, none⟩ = false := fun oo => (hy.frozen (by first | omega | (simp; done) | (simp; omega))).trans ((fz_hold hFx_11) oo)
      try clear hBm_11 hFm_11 hBx_11 hFx_11
      clear hy hb1_11
      have hb12_12 : Ext w12 w12 := Ext.refl _
      have ym : w1.heap.size < w12.heap.size := by omega
      have xm0 := hBm_12 0 _ rfl
      have xm1 := hBm_12 1 _ rfl
      have xm2 := hBm_12 2 _ rfl
      have xm3 := hBm_12 3 _ rfl
      have xm4 := hBm_12 4 _ rfl
      have xm5 := hBm_12 5 _ rfl
      have xm6 := hBm_12 6 _ rfl
      have xm7 := hBm_12 7 _ rfl
      have xm8 := hBm_12 8 _ rfl
      have xm9 := hBm_12 9 _ rfl
      have fm := hFm_12
      have yx : w3.heap.size < w12.heap.size := by omega
      have xx0 := hBx_12 0 _ rfl
      have xx1 := hBx_12 1 _ rfl
      have xx2 := hBx_12 2 _ rfl
      have xx3 := hBx_12 3 _ rfl
      have xx4 := hBx_12 4 _ rfl
      have xx5 := hBx_12 5 _ rfl
      have xx6 := hBx_12 6 _ rfl
      have xx7 := hBx_12 7 _ rfl
      have xx8 := hBx_12 8 _ rfl
      have xx9 := hBx_12 9 _ rfl
      have fx := hFx_12
      go_upto_region 13 with fail
      clear xm0 xm1 xm2 xm3 xm4 xm5 xm6 xm7 xm8 xm9 ym
      clear fm
      clear xx0 xx1 xx2 xx3 xx4 xx5 xx6 xx7 xx8 xx9 yx
      clear fx
      have he13 : Ext w (w12.alloc (Obj.cells #[(.slice A1y y.regs.length c1y), .int .i64 y.pc, (.slice A2y y.mem.length c2y), .int .i64 y.save, .bool y.lets, .bool y.waits, .int .i64 y.halt, (.slice A3y y.ins.length c3y), (.slice A4y y.outs.length c4y), .int .i64 y.count] 26)) := Ext.hold he12
      have hs13 : w12.heap.size + 1 ≤ ((w12.alloc (Obj.cells #[(.slice A1y y.regs.length c1y), .int .i64 y.pc, (.slice A2y y.mem.length c2y), .int .i64 y.save, .bool y.lets, .bool y.waits, .int .i64 y.halt, (.slice A3y y.ins.length c3y), (.slice A4y y.outs.length c4y), .int .i64 y.count] 26))).heap.size := by simp
      have hb1_13 : Ext w1 (w12.alloc (Obj.cells #[(.slice A1y y.regs.length c1y), .int .i64 y.pc, (.slice A2y y.mem.length c2y), .int .i64 y.save, .bool y.lets, .bool y.waits, .int .i64 y.halt, (.slice A3y y.ins.length c3y), (.slice A4y y.outs.length c4y), .int .i64 y.count] 26)) := Ext.hold hb1_12
      have hb12_13 : Ext w12 (w12.alloc (Obj.cells #[(.slice A1y y.regs.length c1y), .int .i64 y.pc, (.slice A2y y.mem.length c2y), .int .i64 y.save, .bool y.lets, .bool y.waits, .int .i64 y.halt, (.slice A3y y.ins.length c3y), (.slice A4y y.outs.length c4y), .int .i64 y.count] 26)) := Ext.hold hb12_12
      have hBm_13 : Bx (w12.alloc (Obj.cells #[(.slice A1y y.regs.length c1y), .int .i64 y.pc, (.slice A2y y.mem.length c2y), .int .i64 y.save, .bool y.lets, .bool y.waits, .int .i64 y.halt, (.slice A3y y.ins.length c3y), (.slice A4y y.outs.length c4y), .int .i64 y.count] 26)) (w1.heap.size) [(.slice A1m m.regs.length c1m), .int .i64 m.pc, (.slice A2m m.mem.length c2m), .int .i64 m.save, .bool m.lets, .bool m.waits, .int .i64 m.halt, (.slice A3m m.ins.length c3m), (.slice A4m m.outs.length c4m), .int .i64 m.count] := Bx.hold hBm_12
      have hFm_13 : ∀ oo, (w12.alloc (Obj.cells #[(.slice A1y y.regs.length c1y), .int .i64 y.pc, (.slice A2y y.mem.length c2y), .int .i64 y.save, .bool y.lets, .bool y.waits, .int .i64 y.halt, (.slice A3y y.ins.length c3y), (.slice A4y y.outs.length c4y), .int .i64 y.count] 26)).frozen? ⟨w1.heap.size, oo, none⟩ = false := fz_hold hFm_12
      have hBx_13 : Bx (w12.alloc (Obj.cells #[(.slice A1y y.regs.length c1y), .int .i64 y.pc, (.slice A2y y.mem.length c2y), .int .i64 y.save, .bool y.lets, .bool y.waits, .int .i64 y.halt, (.slice A3y y.ins.length c3y), (.slice A4y y.outs.length c4y), .int .i64 y.count] 26)) (w3.heap.size) [(.slice A1m m.regs.length c1m), .int .i64 m.pc, .slice (some ⟨g, 0, none⟩) m.mem.length cap, .int .i64 m.save, .bool true, .bool false, .int .i64 0, (.slice A3m m.ins.length c3m), (.slice A4m m.outs.length c4m), .int .i64 m.count] := Bx.hold hBx_12
      have hFx_13 : ∀ oo, (w12.alloc (Obj.cells #[(.slice A1y y.regs.length c1y), .int .i64 y.pc, (.slice A2y y.mem.length c2y), .int .i64 y.save, .bool y.lets, .bool y.waits, .int .i64 y.halt, (.slice A3y y.ins.length c3y), (.slice A4y y.outs.length c4y), .int .i64 y.count] 26)).frozen? ⟨w3.heap.size, oo, none⟩ = false := fz_hold hFx_12
      have hBy_13 : Bx (w12.alloc (Obj.cells #[(.slice A1y y.regs.length c1y), .int .i64 y.pc, (.slice A2y y.mem.length c2y), .int .i64 y.save, .bool y.lets, .bool y.waits, .int .i64 y.halt, (.slice A3y y.ins.length c3y), (.slice A4y y.outs.length c4y), .int .i64 y.count] 26)) (w12.heap.size) [(.slice A1y y.regs.length c1y), .int .i64 y.pc, (.slice A2y y.mem.length c2y), .int .i64 y.save, .bool y.lets, .bool y.waits, .int .i64 y.halt, (.slice A3y y.ins.length c3y), (.slice A4y y.outs.length c4y), .int .i64 y.count] := Bx.new w12 #[(.slice A1y y.regs.length c1y), .int .i64 y.pc, (.slice A2y y.mem.length c2y), .int .i64 y.save, .bool y.lets, .bool y.waits, .int .i64 y.halt, (.slice A3y y.ins.length c3y), (.slice A4y y.outs.length c4y), .int .i64 y.count] 26
      have hFy_13 : ∀ oo, (w12.alloc (Obj.cells #[(.slice A1y y.regs.length c1y), .int .i64 y.pc, (.slice A2y y.mem.length c2y), .int .i64 y.save, .bool y.lets, .bool y.waits, .int .i64 y.halt, (.slice A3y y.ins.length c3y), (.slice A4y y.outs.length c4y), .int .i64 y.count] 26)).frozen? ⟨w12.heap.size, oo, none⟩ = false := fz_new w12 #[(.slice A1y y.regs.length c1y), .int .i64 y.pc, (.slice A2y y.mem.length c2y), .int .i64 y.save, .bool y.lets, .bool y.waits, .int .i64 y.halt, (.slice A3y y.ins.length c3y), (.slice A4y y.outs.length c4y), .int .i64 y.count] 26 rfl
      have hRn2 := (show FRow (w12.alloc (Obj.cells #[(.slice A1y y.regs.length c1y), .int .i64 y.pc, (.slice A2y y.mem.length c2y), .int .i64 y.save, .bool y.lets, .bool y.waits, .int .i64 y.halt, (.slice A3y y.ins.length c3y), (.slice A4y y.outs.length c4y), .int .i64 y.count] 26)) g 0 (m.mem.set 48 (insPut ⟨0, 0, 0, 1⟩)) from FRow.hold hRn)
      clear hRn
      have hRn := hRn2
      clear hRn2
      generalize (w12.alloc (Obj.cells #[(.slice A1y y.regs.length c1y), .int .i64 y.pc, (.slice A2y y.mem.length c2y), .int .i64 y.save, .bool y.lets, .bool y.waits, .int .i64 y.halt, (.slice A3y y.ins.length c3y), (.slice A4y y.outs.length c4y), .int .i64 y.count] 26)) = w13 at *
      clear hBm_12 hFm_12 hBx_12 hFx_12 hb1_12 hb12_12
      have hTy : Turn [w3.heap.size] w12 w13 := Turn.of_ext hb12_13 _
      clear hb12_13
      have ym : w1.heap.size < w13.heap.size := by omega
      have xm0 := hBm_13 0 _ rfl
      have xm1 := hBm_13 1 _ rfl
      have xm2 := hBm_13 2 _ rfl
      have xm3 := hBm_13 3 _ rfl
      have xm4 := hBm_13 4 _ rfl
      have xm5 := hBm_13 5 _ rfl
      have xm6 := hBm_13 6 _ rfl
      have xm7 := hBm_13 7 _ rfl
      have xm8 := hBm_13 8 _ rfl
      have xm9 := hBm_13 9 _ rfl
      have fm := hFm_13
      have yx : w3.heap.size < w13.heap.size := by omega
      have xx0 := hBx_13 0 _ rfl
      have xx1 := hBx_13 1 _ rfl
      have xx2 := hBx_13 2 _ rfl
      have xx3 := hBx_13 3 _ rfl
      have xx4 := hBx_13 4 _ rfl
      have xx5 := hBx_13 5 _ rfl
      have xx6 := hBx_13 6 _ rfl
      have xx7 := hBx_13 7 _ rfl
      have xx8 := hBx_13 8 _ rfl
      have xx9 := hBx_13 9 _ rfl
      have fx := hFx_13
      have yy : w12.heap.size < w13.heap.size := by omega
      have xy0 := hBy_13 0 _ rfl
      have xy1 := hBy_13 1 _ rfl
      have xy2 := hBy_13 2 _ rfl
      have xy3 := hBy_13 3 _ rfl
      have xy4 := hBy_13 4 _ rfl
      have xy5 := hBy_13 5 _ rfl
      have xy6 := hBy_13 6 _ rfl
      have xy7 := hBy_13 7 _ rfl
      have xy8 := hBy_13 8 _ rfl
      have xy9 := hBy_13 9 _ rfl
      have fy := hFy_13
      go_upto_region 14 with fail
      clear xm0 xm1 xm2 xm3 xm4 xm5 xm6 xm7 xm8 xm9 ym
      clear fm
      clear xx0 xx1 xx2 xx3 xx4 xx5 xx6 xx7 xx8 xx9 yx
      clear fx
      clear xy0 xy1 xy2 xy3 xy4 xy5 xy6 xy7 xy8 xy9 yy
      clear fy
      have he14 : Ext w (w13.setCell ⟨w3.heap.size, 3, none⟩ (.int .i64 m.pc)) := Ext.hold he13
      have hs14 : w13.heap.size + 0 ≤ ((w13.setCell ⟨w3.heap.size, 3, none⟩ (.int .i64 m.pc))).heap.size := by simp
      have hb1_14 : Ext w1 (w13.setCell ⟨w3.heap.size, 3, none⟩ (.int .i64 m.pc)) := Ext.hold hb1_13
      have hBm_14 : Bx (w13.setCell ⟨w3.heap.size, 3, none⟩ (.int .i64 m.pc)) (w1.heap.size) [(.slice A1m m.regs.length c1m), .int .i64 m.pc, (.slice A2m m.mem.length c2m), .int .i64 m.save, .bool m.lets, .bool m.waits, .int .i64 m.halt, (.slice A3m m.ins.length c3m), (.slice A4m m.outs.length c4m), .int .i64 m.count] := Bx.hold hBm_13
      have hFm_14 : ∀ oo, (w13.setCell ⟨w3.heap.size, 3, none⟩ (.int .i64 m.pc)).frozen? ⟨w1.heap.size, oo, none⟩ = false := fz_hold hFm_13
      have hBx_14 : Bx (w13.setCell ⟨w3.heap.size, 3, none⟩ (.int .i64 m.pc)) (w3.heap.size) [(.slice A1m m.regs.length c1m), .int .i64 m.pc, .slice (some ⟨g, 0, none⟩) m.mem.length cap, .int .i64 m.pc, .bool true, .bool false, .int .i64 0, (.slice A3m m.ins.length c3m), (.slice A4m m.outs.length c4m), .int .i64 m.count] := (by have := Bx.put hBx_13 (j := 3) (by simp) (.int .i64 m.pc); simpa using this : Bx (w13.setCell ⟨w3.heap.size, 3, none⟩ (.int .i64 m.pc)) (w3.heap.size) [(.slice A1m m.regs.length c1m), .int .i64 m.pc, .slice (some ⟨g, 0, none⟩) m.mem.length cap, .int .i64 m.pc, .bool true, .bool false, .int .i64 0, (.slice A3m m.ins.length c3m), (.slice A4m m.outs.length c4m), .int .i64 m.count])
      have hFx_14 : ∀ oo, (w13.setCell ⟨w3.heap.size, 3, none⟩ (.int .i64 m.pc)).frozen? ⟨w3.heap.size, oo, none⟩ = false := fz_hold hFx_13
      have hBy_14 : Bx (w13.setCell ⟨w3.heap.size, 3, none⟩ (.int .i64 m.pc)) (w12.heap.size) [(.slice A1y y.regs.length c1y), .int .i64 y.pc, (.slice A2y y.mem.length c2y), .int .i64 y.save, .bool y.lets, .bool y.waits, .int .i64 y.halt, (.slice A3y y.ins.length c3y), (.slice A4y y.outs.length c4y), .int .i64 y.count] := Bx.hold hBy_13
      have hFy_14 : ∀ oo, (w13.setCell ⟨w3.heap.size, 3, none⟩ (.int .i64 m.pc)).frozen? ⟨w12.heap.size, oo, none⟩ = false := fz_hold hFy_13
      have hTy2 := (show Turn [w3.heap.size] w12 (w13.setCell ⟨w3.heap.size, 3, none⟩ (.int .i64 m.pc)) from Turn.hold hTy)
      clear hTy
      have hTy := hTy2
      clear hTy2
      have hRn2 := (show FRow (w13.setCell ⟨w3.heap.size, 3, none⟩ (.int .i64 m.pc)) g 0 (m.mem.set 48 (insPut ⟨0, 0, 0, 1⟩)) from FRow.hold hRn)
      clear hRn
      have hRn := hRn2
      clear hRn2
      generalize (w13.setCell ⟨w3.heap.size, 3, none⟩ (.int .i64 m.pc)) = w14 at *
      clear hBm_13 hFm_13 hBx_13 hFx_13 hBy_13 hFy_13 hb1_13
      have ym : w1.heap.size < w14.heap.size := by omega
      have xm0 := hBm_14 0 _ rfl
      have xm1 := hBm_14 1 _ rfl
      have xm2 := hBm_14 2 _ rfl
      have xm3 := hBm_14 3 _ rfl
      have xm4 := hBm_14 4 _ rfl
      have xm5 := hBm_14 5 _ rfl
      have xm6 := hBm_14 6 _ rfl
      have xm7 := hBm_14 7 _ rfl
      have xm8 := hBm_14 8 _ rfl
      have xm9 := hBm_14 9 _ rfl
      have fm := hFm_14
      have yx : w3.heap.size < w14.heap.size := by omega
      have xx0 := hBx_14 0 _ rfl
      have xx1 := hBx_14 1 _ rfl
      have xx2 := hBx_14 2 _ rfl
      have xx3 := hBx_14 3 _ rfl
      have xx4 := hBx_14 4 _ rfl
      have xx5 := hBx_14 5 _ rfl
      have xx6 := hBx_14 6 _ rfl
      have xx7 := hBx_14 7 _ rfl
      have xx8 := hBx_14 8 _ rfl
      have xx9 := hBx_14 9 _ rfl
      have fx := hFx_14
      have yy : w12.heap.size < w14.heap.size := by omega
      have xy0 := hBy_14 0 _ rfl
      have xy1 := hBy_14 1 _ rfl
      have xy2 := hBy_14 2 _ rfl
      have xy3 := hBy_14 3 _ rfl
      have xy4 := hBy_14 4 _ rfl
      have xy5 := hBy_14 5 _ rfl
      have xy6 := hBy_14 6 _ rfl
      have xy7 := hBy_14 7 _ rfl
      have xy8 := hBy_14 8 _ rfl
      have xy9 := hBy_14 9 _ rfl
      have fy := hFy_14
      go_upto_region 15 with fail
      clear xm0 xm1 xm2 xm3 xm4 xm5 xm6 xm7 xm8 xm9 ym
      clear fm
      clear xx0 xx1 xx2 xx3 xx4 xx5 xx6 xx7 xx8 xx9 yx
      clear fx
      clear xy0 xy1 xy2 xy3 xy4 xy5 xy6 xy7 xy8 xy9 yy
      clear fy
      have he15 : Ext w (w14.setCell ⟨w3.heap.size, 9, none⟩ (.int .i64 (m.count + 1))) := Ext.hold he14
      have hs15 : w14.heap.size + 0 ≤ ((w14.setCell ⟨w3.heap.size, 9, none⟩ (.int .i64 (m.count + 1)))).heap.size := by simp
      have hb1_15 : Ext w1 (w14.setCell ⟨w3.heap.size, 9, none⟩ (.int .i64 (m.count + 1))) := Ext.hold hb1_14
      have hBm_15 : Bx (w14.setCell ⟨w3.heap.size, 9, none⟩ (.int .i64 (m.count + 1))) (w1.heap.size) [(.slice A1m m.regs.length c1m), .int .i64 m.pc, (.slice A2m m.mem.length c2m), .int .i64 m.save, .bool m.lets, .bool m.waits, .int .i64 m.halt, (.slice A3m m.ins.length c3m), (.slice A4m m.outs.length c4m), .int .i64 m.count] := Bx.hold hBm_14
      have hFm_15 : ∀ oo, (w14.setCell ⟨w3.heap.size, 9, none⟩ (.int .i64 (m.count + 1))).frozen? ⟨w1.heap.size, oo, none⟩ = false := fz_hold hFm_14
      have hBx_15 : Bx (w14.setCell ⟨w3.heap.size, 9, none⟩ (.int .i64 (m.count + 1))) (w3.heap.size) [(.slice A1m m.regs.length c1m), .int .i64 m.pc, .slice (some ⟨g, 0, none⟩) m.mem.length cap, .int .i64 m.pc, .bool true, .bool false, .int .i64 0, (.slice A3m m.ins.length c3m), (.slice A4m m.outs.length c4m), .int .i64 (m.count + 1)] := (by have := Bx.put hBx_14 (j := 9) (by simp) (.int .i64 (m.count + 1)); simpa using this : Bx (w14.setCell ⟨w3.heap.size, 9, none⟩ (.int .i64 (m.count + 1))) (w3.heap.size) [(.slice A1m m.regs.length c1m), .int .i64 m.pc, .slice (some ⟨g, 0, none⟩) m.mem.length cap, .int .i64 m.pc, .bool true, .bool false, .int .i64 0, (.slice A3m m.ins.length c3m), (.slice A4m m.outs.length c4m), .int .i64 (m.count + 1)])
      have hFx_15 : ∀ oo, (w14.setCell ⟨w3.heap.size, 9, none⟩ (.int .i64 (m.count + 1))).frozen? ⟨w3.heap.size, oo, none⟩ = false := fz_hold hFx_14
      have hBy_15 : Bx (w14.setCell ⟨w3.heap.size, 9, none⟩ (.int .i64 (m.count + 1))) (w12.heap.size) [(.slice A1y y.regs.length c1y), .int .i64 y.pc, (.slice A2y y.mem.length c2y), .int .i64 y.save, .bool y.lets, .bool y.waits, .int .i64 y.halt, (.slice A3y y.ins.length c3y), (.slice A4y y.outs.length c4y), .int .i64 y.count] := Bx.hold hBy_14
      have hFy_15 : ∀ oo, (w14.setCell ⟨w3.heap.size, 9, none⟩ (.int .i64 (m.count + 1))).frozen? ⟨w12.heap.size, oo, none⟩ = false := fz_hold hFy_14
      have hTy2 := (show Turn [w3.heap.size] w12 (w14.setCell ⟨w3.heap.size, 9, none⟩ (.int .i64 (m.count + 1))) from Turn.hold hTy)
      clear hTy
      have hTy := hTy2
      clear hTy2
      have hRn2 := (show FRow (w14.setCell ⟨w3.heap.size, 9, none⟩ (.int .i64 (m.count + 1))) g 0 (m.mem.set 48 (insPut ⟨0, 0, 0, 1⟩)) from FRow.hold hRn)
      clear hRn
      have hRn := hRn2
      clear hRn2
      generalize (w14.setCell ⟨w3.heap.size, 9, none⟩ (.int .i64 (m.count + 1))) = w15 at *
      clear hBm_14 hFm_14 hBx_14 hFx_14 hBy_14 hFy_14 hb1_14
      have qyy := HYY.out
      have hxs2 := hRn.sl (n := m.mem.length) (c := cap) (by rw [List.length_set]) (by rw [List.length_set]; exact hgc) hgm
      have ty1 := (ty1.turn hTy (fun x hx => ⟨hx.2, by have := hx.1; simp; omega⟩)).keep (S' := Old w15) (fun _ _ _ => rfl) (fun b hb => Nat.lt_of_lt_of_le hb.2 hTy.size)
      have ty2 := (ty2.turn hTy (fun x hx => ⟨hx.2, by have := hx.1; simp; omega⟩)).keep (S' := Old w15) (fun _ _ _ => rfl) (fun b hb => Nat.lt_of_lt_of_le hb.2 hTy.size)
      have ty3 := (ty3.turn hTy (fun x hx => ⟨hx.2, by have := hx.1; simp; omega⟩)).keep (S' := Old w15) (fun _ _ _ => rfl) (fun b hb => Nat.lt_of_lt_of_le hb.2 hTy.size)
      have ty4 := (ty4.turn hTy (fun x hx => ⟨hx.2, by have := hx.1; simp; omega⟩)).keep (S' := Old w15) (fun _ _ _ => rfl) (fun b hb => Nat.lt_of_lt_of_le hb.2 hTy.size)
      clear hTy
      have hb15_15 : Ext w15 w15 := Ext.refl _
      have yx : w3.heap.size < w15.heap.size := by omega
      have xx0 := hBx_15 0 _ rfl
      have xx1 := hBx_15 1 _ rfl
      have xx2 := hBx_15 2 _ rfl
      have xx3 := hBx_15 3 _ rfl
      have xx4 := hBx_15 4 _ rfl
      have xx5 := hBx_15 5 _ rfl
      have xx6 := hBx_15 6 _ rfl
      have xx7 := hBx_15 7 _ rfl
      have xx8 := hBx_15 8 _ rfl
      have xx9 := hBx_15 9 _ rfl
      have fx := hFx_15
      have yy : w12.heap.size < w15.heap.size := by omega
      have xy0 := hBy_15 0 _ rfl
      have xy1 := hBy_15 1 _ rfl
      have xy2 := hBy_15 2 _ rfl
      have xy3 := hBy_15 3 _ rfl
      have xy4 := hBy_15 4 _ rfl
      have xy5 := hBy_15 5 _ rfl
      have xy6 := hBy_15 6 _ rfl
      have xy7 := hBy_15 7 _ rfl
      have xy8 := hBy_15 8 _ rfl
      have xy9 := hBy_15 9 _ rfl
      have fy := hFy_15
      go_wp2_with fail
      refine (laMach_any ({ backM m with save := m.pc, count := m.count + 1 } : MchMach) y _ _ _ _ _ _ _ _ _ (tm1.ext (Ext.hold hb1_15)) (hxs2.ext Ext.auto) (tm3.ext (Ext.hold hb1_15)) (tm4.ext (Ext.hold hb1_15)) (ty1.ext (Ext.hold hb15_15)) (ty2.ext (Ext.hold hb15_15)) (ty3.ext (Ext.hold hb15_15)) (ty4.ext (Ext.hold hb15_15))).mono ?_
      rintro e w16 ⟨rfl, hy⟩
      simp only [qyy]
      clear xx0 xx1 xx2 xx3 xx4 xx5 xx6 xx7 xx8 xx9 yx
      clear fx
      clear xy0 xy1 xy2 xy3 xy4 xy5 xy6 xy7 xy8 xy9 yy
      clear fy
      have hb1_16 : Ext w1 w16 := Ext.trans (Ext.hold hb1_15) hy
      have hb15_16 : Ext w15 w16 := Ext.trans (Ext.hold hb15_15) hy
      have hRn2 := FRow.ext (FRow.hold hRn) hy
      clear hRn
      have hRn := hRn2
      clear hRn2
      have hs16 := hy.size
      try simp at hs16
      have he16 : Ext w w16 := Ext.trans (Ext.hold he15) hy
      have hBm_16 : Bx w16 (w1.heap.size) [(.slice A1m m.regs.length c1m), .int .i64 m.pc, (.slice A2m m.mem.length c2m), .int .i64 m.save, .bool m.lets, .bool m.waits, .int .i64 m.halt, (.slice A3m m.ins.length c3m), (.slice A4m m.outs.length c4m), .int .i64 m.count] := hy.bx (Bx.hold hBm_15) (by first | omega | (simp; done) | (simp; omega))
      have hFm_16 : ∀ oo, w16.frozen? ⟨w1.heap.size, oo, none⟩ = false := fun oo => (hy.frozen (by first | omega | (simp; done) | (simp; omega))).trans ((fz_hold hFm_15) oo)
      have hBx_16 : Bx w16 (w3.heap.size) [(.slice A1m m.regs.length c1m), .int .i64 m.pc, .slice (some ⟨g, 0, none⟩) m.mem.length cap, .int .i64 m.pc, .bool true, .bool false, .int .i64 0, (.slice A3m m.ins.length c3m), (.slice A4m m.outs.length c4m), .int .i64 (m.count + 1)] := hy.bx (Bx.hold hBx_15) (by first | omega | (simp; done) | (simp; omega))
      have hFx_16 : ∀ oo, w16.frozen? ⟨w3.heap.size, oo, none⟩ = false := fun oo => (hy.frozen (by first | omega | (simp; done) | (simp; omega))).trans ((fz_hold hFx_15) oo)
      have hBy_16 : Bx w16 (w12.heap.size) [(.slice A1y y.regs.length c1y), .int .i64 y.pc, (.slice A2y y.mem.length c2y), .int .i64 y.save, .bool y.lets, .bool y.waits, .int .i64 y.halt, (.slice A3y y.ins.length c3y), (.slice A4y y.outs.length c4y), .int .i64 y.count] := hy.bx (Bx.hold hBy_15) (by first | omega | (simp; done) | (simp; omega))
      have hFy_16 : ∀ oo, w16.frozen? ⟨w12.heap.size, oo, none⟩ = false := fun oo => (hy.frozen (by first | omega | (simp; done) | (simp; omega))).trans ((fz_hold hFy_15) oo)
      try clear hBm_15 hFm_15 hBx_15 hFx_15 hBy_15 hFy_15
      clear hy hb1_15 hb15_15
      have ym : w1.heap.size < w16.heap.size := by omega
      have xm0 := hBm_16 0 _ rfl
      have xm1 := hBm_16 1 _ rfl
      have xm2 := hBm_16 2 _ rfl
      have xm3 := hBm_16 3 _ rfl
      have xm4 := hBm_16 4 _ rfl
      have xm5 := hBm_16 5 _ rfl
      have xm6 := hBm_16 6 _ rfl
      have xm7 := hBm_16 7 _ rfl
      have xm8 := hBm_16 8 _ rfl
      have xm9 := hBm_16 9 _ rfl
      have fm := hFm_16
      have yx : w3.heap.size < w16.heap.size := by omega
      have xx0 := hBx_16 0 _ rfl
      have xx1 := hBx_16 1 _ rfl
      have xx2 := hBx_16 2 _ rfl
      have xx3 := hBx_16 3 _ rfl
      have xx4 := hBx_16 4 _ rfl
      have xx5 := hBx_16 5 _ rfl
      have xx6 := hBx_16 6 _ rfl
      have xx7 := hBx_16 7 _ rfl
      have xx8 := hBx_16 8 _ rfl
      have xx9 := hBx_16 9 _ rfl
      have fx := hFx_16
      have yy : w12.heap.size < w16.heap.size := by omega
      have xy0 := hBy_16 0 _ rfl
      have xy1 := hBy_16 1 _ rfl
      have xy2 := hBy_16 2 _ rfl
      have xy3 := hBy_16 3 _ rfl
      have xy4 := hBy_16 4 _ rfl
      have xy5 := hBy_16 5 _ rfl
      have xy6 := hBy_16 6 _ rfl
      have xy7 := hBy_16 7 _ rfl
      have xy8 := hBy_16 8 _ rfl
      have xy9 := hBy_16 9 _ rfl
      have fy := hFy_16
      go_wp2_with fail
      go_ret
      exact ⟨rfl, Ext.hold he16⟩

end Go.Proofs.YtabldlhigjhkeaaDoor
