/-
  The law FnMchPorts returns true for every input.
-/
import Derived.Test.YtabldlhigjhkeaaDoorLawStep
import Derived.Test.YtabldlhigjhkeaaDoorLawPure
import Derived.Test.YtabldlhigjhkeaaDoorRegLib
import Derived.Deep.DeepCutAuto
namespace Go.Proofs.YtabldlhigjhkeaaDoor
open Go.RowKit

set_option linter.unusedVariables false
set_option linter.unusedSimpArgs false
set_option maxRecDepth 100000

set_option maxHeartbeats 64000000 in
theorem lawMchPorts_any (code : List UInt8) (v : Value) (w : World) (h : Sl w (Old w) v code) (lf : Nat) (hF : Forms lf w) : Calls Tryd.prog 8 #[v] w fun e w' => e = .returned (.bool true) ∧ Ext w w' := by
  obtain ⟨Ac, cc, rfl, -, -⟩ := h.form
  by_cases hbig : 1048576 < code.length
  · have q1 : decide (1048576 < (code.length : Int)) = true := decide_eq_true (by omega)
    go_enter Tryd.func8, Tryd.ntmps8
    go_wp2
    go_ret
    exact ⟨rfl, Ext.refl _⟩
  have q1 : decide (1048576 < (code.length : Int)) = false := decide_eq_false (by omega)
  go_enter Tryd.func8, Tryd.ntmps8
  go_wp2_with fail
  refine (drawMchStep_any code _ _ h).mono ?_
  intro e w1 hd
  unfold DStep at hd
  obtain ⟨m, A1m, A2m, A3m, A4m, c1m, c2m, c3m, c4m, b, rfl, ⟨hl1, hl2, hl3, hl4⟩, tm1, tm2, tm3, tm4, he1⟩ := hd
  have hs1 := he1.size
  have hb1_1 : Ext w1 w1 := Ext.refl _
  have HIW := hide True.intro
  clear q1 hbig
  go_upto_region 4 with fail
  have he2 : Ext w (w1.alloc (Obj.cells #[(.slice A1m m.regs.length c1m), .int .i64 m.pc, (.slice A2m m.mem.length c2m), .int .i64 m.save, .bool m.lets, .bool m.waits, .int .i64 m.halt, (.slice A3m m.ins.length c3m), (.slice A4m m.outs.length c4m), .int .i64 m.count] 26)) := Ext.hold he1
  have hs2 : w1.heap.size + 1 ≤ ((w1.alloc (Obj.cells #[(.slice A1m m.regs.length c1m), .int .i64 m.pc, (.slice A2m m.mem.length c2m), .int .i64 m.save, .bool m.lets, .bool m.waits, .int .i64 m.halt, (.slice A3m m.ins.length c3m), (.slice A4m m.outs.length c4m), .int .i64 m.count] 26))).heap.size := by simp
  have hb1_2 : Ext w1 (w1.alloc (Obj.cells #[(.slice A1m m.regs.length c1m), .int .i64 m.pc, (.slice A2m m.mem.length c2m), .int .i64 m.save, .bool m.lets, .bool m.waits, .int .i64 m.halt, (.slice A3m m.ins.length c3m), (.slice A4m m.outs.length c4m), .int .i64 m.count] 26)) := Ext.hold hb1_1
  have hBm_2 : Bx (w1.alloc (Obj.cells #[(.slice A1m m.regs.length c1m), .int .i64 m.pc, (.slice A2m m.mem.length c2m), .int .i64 m.save, .bool m.lets, .bool m.waits, .int .i64 m.halt, (.slice A3m m.ins.length c3m), (.slice A4m m.outs.length c4m), .int .i64 m.count] 26)) (w1.heap.size) [(.slice A1m m.regs.length c1m), .int .i64 m.pc, (.slice A2m m.mem.length c2m), .int .i64 m.save, .bool m.lets, .bool m.waits, .int .i64 m.halt, (.slice A3m m.ins.length c3m), (.slice A4m m.outs.length c4m), .int .i64 m.count] := Bx.new w1 #[(.slice A1m m.regs.length c1m), .int .i64 m.pc, (.slice A2m m.mem.length c2m), .int .i64 m.save, .bool m.lets, .bool m.waits, .int .i64 m.halt, (.slice A3m m.ins.length c3m), (.slice A4m m.outs.length c4m), .int .i64 m.count] 26
  have hFm_2 : ∀ oo, (w1.alloc (Obj.cells #[(.slice A1m m.regs.length c1m), .int .i64 m.pc, (.slice A2m m.mem.length c2m), .int .i64 m.save, .bool m.lets, .bool m.waits, .int .i64 m.halt, (.slice A3m m.ins.length c3m), (.slice A4m m.outs.length c4m), .int .i64 m.count] 26)).frozen? ⟨w1.heap.size, oo, none⟩ = false := fz_new w1 #[(.slice A1m m.regs.length c1m), .int .i64 m.pc, (.slice A2m m.mem.length c2m), .int .i64 m.save, .bool m.lets, .bool m.waits, .int .i64 m.halt, (.slice A3m m.ins.length c3m), (.slice A4m m.outs.length c4m), .int .i64 m.count] 26 rfl
  generalize (w1.alloc (Obj.cells #[(.slice A1m m.regs.length c1m), .int .i64 m.pc, (.slice A2m m.mem.length c2m), .int .i64 m.save, .bool m.lets, .bool m.waits, .int .i64 m.halt, (.slice A3m m.ins.length c3m), (.slice A4m m.outs.length c4m), .int .i64 m.count] 26)) = w2 at *
  clear hb1_1
  cases q0 : mchOkB m
  · 
    have ym : w1.heap.size < w2.heap.size := by omega
    have xm0 := hBm_2 0 _ rfl
    have xm1 := hBm_2 1 _ rfl
    have xm2 := hBm_2 2 _ rfl
    have xm3 := hBm_2 3 _ rfl
    have xm4 := hBm_2 4 _ rfl
    have xm5 := hBm_2 5 _ rfl
    have xm6 := hBm_2 6 _ rfl
    have xm7 := hBm_2 7 _ rfl
    have xm8 := hBm_2 8 _ rfl
    have xm9 := hBm_2 9 _ rfl
    have fm := hFm_2
    go_wp2_with fail
    refine (specMchOk_any m _ _ _ _ _ (tm1.ext (Ext.hold hb1_2)) (tm2.ext (Ext.hold hb1_2)) (tm3.ext (Ext.hold hb1_2)) (tm4.ext (Ext.hold hb1_2))).mono ?_
    rintro e w3 ⟨rfl, hy⟩
    simp only [q0]
    clear xm0 xm1 xm2 xm3 xm4 xm5 xm6 xm7 xm8 xm9 ym
    clear fm
    have hb1_3 : Ext w1 w3 := Ext.trans (Ext.hold hb1_2) hy
    have hs3 := hy.size
    try simp at hs3
    have he3 : Ext w w3 := Ext.trans (Ext.hold he2) hy
    have hBm_3 : Bx w3 (w1.heap.size) [(.slice A1m m.regs.length c1m), .int .i64 m.pc, (.slice A2m m.mem.length c2m), .int .i64 m.save, .bool m.lets, .bool m.waits, .int .i64 m.halt, (.slice A3m m.ins.length c3m), (.slice A4m m.outs.length c4m), .int .i64 m.count] := hy.bx (Bx.hold hBm_2) (by first | omega | (simp; done) | (simp; omega))
    have hFm_3 : ∀ oo, w3.frozen? ⟨w1.heap.size, oo, none⟩ = false := fun oo => (hy.frozen (by first | omega | (simp; done) | (simp; omega))).trans ((fz_hold hFm_2) oo)
    try clear hBm_2 hFm_2
    clear hy hb1_2
    go_wp2_with (go_at_call 30; refine (laOk_any _).mono ?_; rintro e w' ⟨rfl, rfl⟩)
    go_ret
    exact ⟨rfl, Ext.hold he3⟩
  have hk := mOk_iff.1 q0
  have HP := hide (mStep_outs hk b)
  have HI := hide (mStep_ins hk b)
  have ym : w1.heap.size < w2.heap.size := by omega
  have xm0 := hBm_2 0 _ rfl
  have xm1 := hBm_2 1 _ rfl
  have xm2 := hBm_2 2 _ rfl
  have xm3 := hBm_2 3 _ rfl
  have xm4 := hBm_2 4 _ rfl
  have xm5 := hBm_2 5 _ rfl
  have xm6 := hBm_2 6 _ rfl
  have xm7 := hBm_2 7 _ rfl
  have xm8 := hBm_2 8 _ rfl
  have xm9 := hBm_2 9 _ rfl
  have fm := hFm_2
  go_wp2_with fail
  refine (specMchOk_any m _ _ _ _ _ (tm1.ext (Ext.hold hb1_2)) (tm2.ext (Ext.hold hb1_2)) (tm3.ext (Ext.hold hb1_2)) (tm4.ext (Ext.hold hb1_2))).mono ?_
  rintro e w3 ⟨rfl, hy⟩
  simp only [q0]
  clear xm0 xm1 xm2 xm3 xm4 xm5 xm6 xm7 xm8 xm9 ym
  clear fm
  have hb1_3 : Ext w1 w3 := Ext.trans (Ext.hold hb1_2) hy
  have hs3 := hy.size
  try simp at hs3
  have he3 : Ext w w3 := Ext.trans (Ext.hold he2) hy
  have hBm_3 : Bx w3 (w1.heap.size) [(.slice A1m m.regs.length c1m), .int .i64 m.pc, (.slice A2m m.mem.length c2m), .int .i64 m.save, .bool m.lets, .bool m.waits, .int .i64 m.halt, (.slice A3m m.ins.length c3m), (.slice A4m m.outs.length c4m), .int .i64 m.count] := hy.bx (Bx.hold hBm_2) (by first | omega | (simp; done) | (simp; omega))
  have hFm_3 : ∀ oo, w3.frozen? ⟨w1.heap.size, oo, none⟩ = false := fun oo => (hy.frozen (by first | omega | (simp; done) | (simp; omega))).trans ((fz_hold hFm_2) oo)
  try clear hBm_2 hFm_2
  clear hy hb1_2
  clear q0 hk
  have ym : w1.heap.size < w3.heap.size := by omega
  have xm0 := hBm_3 0 _ rfl
  have xm1 := hBm_3 1 _ rfl
  have xm2 := hBm_3 2 _ rfl
  have xm3 := hBm_3 3 _ rfl
  have xm4 := hBm_3 4 _ rfl
  have xm5 := hBm_3 5 _ rfl
  have xm6 := hBm_3 6 _ rfl
  have xm7 := hBm_3 7 _ rfl
  have xm8 := hBm_3 8 _ rfl
  have xm9 := hBm_3 9 _ rfl
  have fm := hFm_3
  go_wp2_with fail
  refine (implStep_r m b _ _ _ _ _ (tm1.ext (Ext.hold hb1_3)) (tm2.ext (Ext.hold hb1_3)) (tm3.ext (Ext.hold hb1_3)) (tm4.ext (Ext.hold hb1_3)) (by omega) (by omega) (by omega) (by omega) (by omega) lf (hF.ext (Ext.hold he3))).mono ?_
  intro e w4 hr
  unfold MRet at hr
  obtain ⟨A1x, A2x, A3x, A4x, c1x, c2x, c3x, c4x, rfl, tx1, tx2, tx3, tx4, hy⟩ := hr
  generalize mStep m b = x at *
  clear xm0 xm1 xm2 xm3 xm4 xm5 xm6 xm7 xm8 xm9 ym
  clear fm
  have hb1_4 : Ext w1 w4 := Ext.trans (Ext.hold hb1_3) hy
  have hs4 := hy.size
  try simp at hs4
  have he4 : Ext w w4 := Ext.trans (Ext.hold he3) hy
  have hBm_4 : Bx w4 (w1.heap.size) [(.slice A1m m.regs.length c1m), .int .i64 m.pc, (.slice A2m m.mem.length c2m), .int .i64 m.save, .bool m.lets, .bool m.waits, .int .i64 m.halt, (.slice A3m m.ins.length c3m), (.slice A4m m.outs.length c4m), .int .i64 m.count] := hy.bx (Bx.hold hBm_3) (by first | omega | (simp; done) | (simp; omega))
  have hFm_4 : ∀ oo, w4.frozen? ⟨w1.heap.size, oo, none⟩ = false := fun oo => (hy.frozen (by first | omega | (simp; done) | (simp; omega))).trans ((fz_hold hFm_3) oo)
  try clear hBm_3 hFm_3
  clear hy hb1_3
  have hb4_4 : Ext w4 w4 := Ext.refl _
  have ym : w1.heap.size < w4.heap.size := by omega
  have xm0 := hBm_4 0 _ rfl
  have xm1 := hBm_4 1 _ rfl
  have xm2 := hBm_4 2 _ rfl
  have xm3 := hBm_4 3 _ rfl
  have xm4 := hBm_4 4 _ rfl
  have xm5 := hBm_4 5 _ rfl
  have xm6 := hBm_4 6 _ rfl
  have xm7 := hBm_4 7 _ rfl
  have xm8 := hBm_4 8 _ rfl
  have xm9 := hBm_4 9 _ rfl
  have fm := hFm_4
  go_upto_region 7 with fail
  clear xm0 xm1 xm2 xm3 xm4 xm5 xm6 xm7 xm8 xm9 ym
  clear fm
  have he5 : Ext w (w4.alloc (Obj.cells #[(.slice A1x x.regs.length c1x), .int .i64 x.pc, (.slice A2x x.mem.length c2x), .int .i64 x.save, .bool x.lets, .bool x.waits, .int .i64 x.halt, (.slice A3x x.ins.length c3x), (.slice A4x x.outs.length c4x), .int .i64 x.count] 26)) := Ext.hold he4
  have hs5 : w4.heap.size + 1 ≤ ((w4.alloc (Obj.cells #[(.slice A1x x.regs.length c1x), .int .i64 x.pc, (.slice A2x x.mem.length c2x), .int .i64 x.save, .bool x.lets, .bool x.waits, .int .i64 x.halt, (.slice A3x x.ins.length c3x), (.slice A4x x.outs.length c4x), .int .i64 x.count] 26))).heap.size := by simp
  have hb1_5 : Ext w1 (w4.alloc (Obj.cells #[(.slice A1x x.regs.length c1x), .int .i64 x.pc, (.slice A2x x.mem.length c2x), .int .i64 x.save, .bool x.lets, .bool x.waits, .int .i64 x.halt, (.slice A3x x.ins.length c3x), (.slice A4x x.outs.length c4x), .int .i64 x.count] 26)) := Ext.hold hb1_4
  have hb4_5 : Ext w4 (w4.alloc (Obj.cells #[(.slice A1x x.regs.length c1x), .int .i64 x.pc, (.slice A2x x.mem.length c2x), .int .i64 x.save, .bool x.lets, .bool x.waits, .int .i64 x.halt, (.slice A3x x.ins.length c3x), (.slice A4x x.outs.length c4x), .int .i64 x.count] 26)) := Ext.hold hb4_4
  have hBm_5 : Bx (w4.alloc (Obj.cells #[(.slice A1x x.regs.length c1x), .int .i64 x.pc, (.slice A2x x.mem.length c2x), .int .i64 x.save, .bool x.lets, .bool x.waits, .int .i64 x.halt, (.slice A3x x.ins.length c3x), (.slice A4x x.outs.length c4x), .int .i64 x.count] 26)) (w1.heap.size) [(.slice A1m m.regs.length c1m), .int .i64 m.pc, (.slice A2m m.mem.length c2m), .int .i64 m.save, .bool m.lets, .bool m.waits, .int .i64 m.halt, (.slice A3m m.ins.length c3m), (.slice A4m m.outs.length c4m), .int .i64 m.count] := Bx.hold hBm_4
  have hFm_5 : ∀ oo, (w4.alloc (Obj.cells #[(.slice A1x x.regs.length c1x), .int .i64 x.pc, (.slice A2x x.mem.length c2x), .int .i64 x.save, .bool x.lets, .bool x.waits, .int .i64 x.halt, (.slice A3x x.ins.length c3x), (.slice A4x x.outs.length c4x), .int .i64 x.count] 26)).frozen? ⟨w1.heap.size, oo, none⟩ = false := fz_hold hFm_4
  have hBx_5 : Bx (w4.alloc (Obj.cells #[(.slice A1x x.regs.length c1x), .int .i64 x.pc, (.slice A2x x.mem.length c2x), .int .i64 x.save, .bool x.lets, .bool x.waits, .int .i64 x.halt, (.slice A3x x.ins.length c3x), (.slice A4x x.outs.length c4x), .int .i64 x.count] 26)) (w4.heap.size) [(.slice A1x x.regs.length c1x), .int .i64 x.pc, (.slice A2x x.mem.length c2x), .int .i64 x.save, .bool x.lets, .bool x.waits, .int .i64 x.halt, (.slice A3x x.ins.length c3x), (.slice A4x x.outs.length c4x), .int .i64 x.count] := Bx.new w4 #[(.slice A1x x.regs.length c1x), .int .i64 x.pc, (.slice A2x x.mem.length c2x), .int .i64 x.save, .bool x.lets, .bool x.waits, .int .i64 x.halt, (.slice A3x x.ins.length c3x), (.slice A4x x.outs.length c4x), .int .i64 x.count] 26
  have hFx_5 : ∀ oo, (w4.alloc (Obj.cells #[(.slice A1x x.regs.length c1x), .int .i64 x.pc, (.slice A2x x.mem.length c2x), .int .i64 x.save, .bool x.lets, .bool x.waits, .int .i64 x.halt, (.slice A3x x.ins.length c3x), (.slice A4x x.outs.length c4x), .int .i64 x.count] 26)).frozen? ⟨w4.heap.size, oo, none⟩ = false := fz_new w4 #[(.slice A1x x.regs.length c1x), .int .i64 x.pc, (.slice A2x x.mem.length c2x), .int .i64 x.save, .bool x.lets, .bool x.waits, .int .i64 x.halt, (.slice A3x x.ins.length c3x), (.slice A4x x.outs.length c4x), .int .i64 x.count] 26 rfl
  generalize (w4.alloc (Obj.cells #[(.slice A1x x.regs.length c1x), .int .i64 x.pc, (.slice A2x x.mem.length c2x), .int .i64 x.save, .bool x.lets, .bool x.waits, .int .i64 x.halt, (.slice A3x x.ins.length c3x), (.slice A4x x.outs.length c4x), .int .i64 x.count] 26)) = w5 at *
  clear hBm_4 hFm_4 hb1_4 hb4_4
  have hpo := HP.out
  have hlo : m.outs.length ≤ x.outs.length ∧ x.outs.length ≤ m.outs.length + 1 ∧ x.outs.take m.outs.length = m.outs := by
    rcases hpo with e | ⟨n, e⟩
    · rw [e]; simp
    · rw [e]; simp
  obtain ⟨ho1, ho2, ho3⟩ := hlo
  clear hpo
  have q2 : decide (x.outs.length < m.outs.length) = false := decide_eq_false (by omega)
  have q3 : decide ((m.outs.length : Int) + 1 < (x.outs.length : Int)) = false := decide_eq_false (by omega)
  have hto := (tx4.take_ (k := m.outs.length) ho1)
  rw [ho3] at hto
  have HO3 := hide ho3
  clear ho3
  have hcx : m.outs.length ≤ c4x := by
    obtain ⟨_, _, hfe, hcc, -⟩ := tx4.form
    injection hfe with e1 e2 e3
    omega
  have ym : w1.heap.size < w5.heap.size := by omega
  have xm0 := hBm_5 0 _ rfl
  have xm1 := hBm_5 1 _ rfl
  have xm2 := hBm_5 2 _ rfl
  have xm3 := hBm_5 3 _ rfl
  have xm4 := hBm_5 4 _ rfl
  have xm5 := hBm_5 5 _ rfl
  have xm6 := hBm_5 6 _ rfl
  have xm7 := hBm_5 7 _ rfl
  have xm8 := hBm_5 8 _ rfl
  have xm9 := hBm_5 9 _ rfl
  have fm := hFm_5
  have yx : w4.heap.size < w5.heap.size := by omega
  have xx0 := hBx_5 0 _ rfl
  have xx1 := hBx_5 1 _ rfl
  have xx2 := hBx_5 2 _ rfl
  have xx3 := hBx_5 3 _ rfl
  have xx4 := hBx_5 4 _ rfl
  have xx5 := hBx_5 5 _ rfl
  have xx6 := hBx_5 6 _ rfl
  have xx7 := hBx_5 7 _ rfl
  have xx8 := hBx_5 8 _ rfl
  have xx9 := hBx_5 9 _ rfl
  have fx := hFx_5
  have W1 : IntKind.i64.wrap ((m.outs.length : Int) + 1) = (m.outs.length : Int) + 1 := by rw [IntKind.wrap_i64]; omega
  go_upto_region 8 with fail
  have hS : ∀ w', Ext w5 w' → ∀ bb oo, bb < w5.heap.size → w'.cell? ⟨bb, oo, none⟩ = w5.cell? ⟨bb, oo, none⟩ := fun w' hx bb oo hb => hx.cell hb
  refine wp_region_plan (fun w' => Ext w5 w') 20 (.float 0 (.float 1 (.float 2 (.float 3 (.float 4 (.float 5 (.float 6 (.float 7 (.float 8 (.float 9 (.float 10 (.float 11 (.float 12 (.float 13 (.float 14 (.float 15 (.float 16 (.float 17 (.float 18 (.float 19 (.tail 20))))))))))))))))))))) (by kernel_rfl) (by kernel_rfl) (Ext.refl _).drew ?_
  iterate 6 ((refine Plan.float_step (v := ?_) rfl (by rfl) (fun _ _ _ h => h) (fun w' hSw => ?_) ?_; rotate_left; · (go_simp; try with_reducible rfl)); (try simp only [Act.put, List.setIfInBounds_toArray, List.set_cons_zero, List.set_cons_succ]))
  iterate 6 ((first | (refine Plan.float_step (v := ?_) rfl (by rfl) (fun _ _ _ h => h) (fun w' hSw => ?_) ?_; rotate_left; · (go_simp; try with_reducible rfl)) | (refine planNo rfl (by rfl) (fun _ _ _ h => h) ?_)); (try simp only [Act.put, List.setIfInBounds_toArray, List.set_cons_zero, List.set_cons_succ]))
  iterate 2 ((refine Plan.float_step (v := ?_) rfl (by rfl) (fun _ _ _ h => h) (fun w' hSw => ?_) ?_; rotate_left; · (go_simp; try with_reducible rfl)); (try simp only [Act.put, List.setIfInBounds_toArray, List.set_cons_zero, List.set_cons_succ]))
  iterate 6 ((first | (refine Plan.float_step (v := ?_) rfl (by rfl) (fun _ _ _ h => h) (fun w' hSw => ?_) ?_; rotate_left; · (go_simp; try with_reducible rfl)) | (refine planNo rfl (by rfl) (fun _ _ _ h => h) ?_)); (try simp only [Act.put, List.setIfInBounds_toArray, List.set_cons_zero, List.set_cons_succ]))
  refine Plan.tail_step ?_
  simp only [List.drop_succ_cons, List.drop_zero]
  clear hS
  clear W1
  go_wp2_with fail
  refine (laInts_any m.outs m.outs _ _ _ (hto.ext (Ext.hold hb4_5)) (tm4.ext (Ext.hold hb1_5))).mono ?_
  rintro e w6 ⟨rfl, hy⟩
  clear xm0 xm1 xm2 xm3 xm4 xm5 xm6 xm7 xm8 xm9 ym
  clear fm
  clear xx0 xx1 xx2 xx3 xx4 xx5 xx6 xx7 xx8 xx9 yx
  clear fx
  have hb1_6 : Ext w1 w6 := Ext.trans (Ext.hold hb1_5) hy
  have hb4_6 : Ext w4 w6 := Ext.trans (Ext.hold hb4_5) hy
  have hs6 := hy.size
  try simp at hs6
  have he6 : Ext w w6 := Ext.trans (Ext.hold he5) hy
  have hBm_6 : Bx w6 (w1.heap.size) [(.slice A1m m.regs.length c1m), .int .i64 m.pc, (.slice A2m m.mem.length c2m), .int .i64 m.save, .bool m.lets, .bool m.waits, .int .i64 m.halt, (.slice A3m m.ins.length c3m), (.slice A4m m.outs.length c4m), .int .i64 m.count] := hy.bx (Bx.hold hBm_5) (by first | omega | (simp; done) | (simp; omega))
  have hFm_6 : ∀ oo, w6.frozen? ⟨w1.heap.size, oo, none⟩ = false := fun oo => (hy.frozen (by first | omega | (simp; done) | (simp; omega))).trans ((fz_hold hFm_5) oo)
  have hBx_6 : Bx w6 (w4.heap.size) [(.slice A1x x.regs.length c1x), .int .i64 x.pc, (.slice A2x x.mem.length c2x), .int .i64 x.save, .bool x.lets, .bool x.waits, .int .i64 x.halt, (.slice A3x x.ins.length c3x), (.slice A4x x.outs.length c4x), .int .i64 x.count] := hy.bx (Bx.hold hBx_5) (by first | omega | (simp; done) | (simp; omega))
  have hFx_6 : ∀ oo, w6.frozen? ⟨w4.heap.size, oo, none⟩ = false := fun oo => (hy.frozen (by first | omega | (simp; done) | (simp; omega))).trans ((fz_hold hFx_5) oo)
  try clear hBm_5 hFm_5 hBx_5 hFx_5
  clear hy hb1_5 hb4_5
  have q4 : decide (m.outs = m.outs) = true := decide_eq_true rfl
  clear q2 q3
  clear q4 hto
  by_cases hxi : x.ins = m.ins
  · 
    have q5 : decide (x.ins = m.ins) = true := decide_eq_true hxi
    have HXI := hide hxi
    clear hxi
    clear HXI
    have ym : w1.heap.size < w6.heap.size := by omega
    have xm0 := hBm_6 0 _ rfl
    have xm1 := hBm_6 1 _ rfl
    have xm2 := hBm_6 2 _ rfl
    have xm3 := hBm_6 3 _ rfl
    have xm4 := hBm_6 4 _ rfl
    have xm5 := hBm_6 5 _ rfl
    have xm6 := hBm_6 6 _ rfl
    have xm7 := hBm_6 7 _ rfl
    have xm8 := hBm_6 8 _ rfl
    have xm9 := hBm_6 9 _ rfl
    have fm := hFm_6
    have yx : w4.heap.size < w6.heap.size := by omega
    have xx0 := hBx_6 0 _ rfl
    have xx1 := hBx_6 1 _ rfl
    have xx2 := hBx_6 2 _ rfl
    have xx3 := hBx_6 3 _ rfl
    have xx4 := hBx_6 4 _ rfl
    have xx5 := hBx_6 5 _ rfl
    have xx6 := hBx_6 6 _ rfl
    have xx7 := hBx_6 7 _ rfl
    have xx8 := hBx_6 8 _ rfl
    have xx9 := hBx_6 9 _ rfl
    have fx := hFx_6
    go_upto_region 10 with fail
    have hS : ∀ w', Ext w6 w' → ∀ bb oo, bb < w6.heap.size → w'.cell? ⟨bb, oo, none⟩ = w6.cell? ⟨bb, oo, none⟩ := fun w' hx bb oo hb => hx.cell hb
    refine wp_region_plan (fun w' => Ext w6 w') 16 (.float 0 (.float 1 (.float 2 (.float 3 (.chain 4 (.float 5 (.float 6 (.float 7 (.float 8 (.float 9 (.float 10 (.float 11 (.float 12 (.float 13 (.float 14 (.float 15 (.tail 16))))))))))))))))) (by kernel_rfl) (by kernel_rfl) (Ext.refl _).drew ?_
    iterate 4 ((refine Plan.float_step (v := ?_) rfl (by rfl) (fun _ _ _ h => h) (fun w' hSw => ?_) ?_; rotate_left; · (go_simp; try with_reducible rfl)); (try simp only [Act.put, List.setIfInBounds_toArray, List.set_cons_zero, List.set_cons_succ]))
    refine Plan.chain_step rfl (fun K hK => ?_)
    go_simp
    refine (laInts_any (x.ins) (m.ins) _ _ _ (tx3.ext (Ext.hold hb4_6)) (tm3.ext (Ext.hold hb1_6))).mono ?_
    rintro e w7 ⟨rfl, hy⟩
    refine hK.out _ _ (Ext.trans Ext.auto hy) ?_
    clear hK
    (try simp only [Act.put, List.setIfInBounds_toArray, List.set_cons_zero, List.set_cons_succ])
    have hb6_6 : Ext w6 w6 := Ext.refl _
    have hb1_7 : Ext w1 w7 := Ext.trans (Ext.hold hb1_6) hy
    have hb4_7 : Ext w4 w7 := Ext.trans (Ext.hold hb4_6) hy
    have hb6_7 : Ext w6 w7 := Ext.trans (Ext.hold hb6_6) hy
    have hs7 := hy.size
    try simp at hs7
    have he7 : Ext w w7 := Ext.trans (Ext.hold he6) hy
    have hBm_7 : Bx w7 (w1.heap.size) [(.slice A1m m.regs.length c1m), .int .i64 m.pc, (.slice A2m m.mem.length c2m), .int .i64 m.save, .bool m.lets, .bool m.waits, .int .i64 m.halt, (.slice A3m m.ins.length c3m), (.slice A4m m.outs.length c4m), .int .i64 m.count] := hy.bx (Bx.hold hBm_6) (by first | omega | (simp; done) | (simp; omega))
    have hFm_7 : ∀ oo, w7.frozen? ⟨w1.heap.size, oo, none⟩ = false := fun oo => (hy.frozen (by first | omega | (simp; done) | (simp; omega))).trans ((fz_hold hFm_6) oo)
    have hBx_7 : Bx w7 (w4.heap.size) [(.slice A1x x.regs.length c1x), .int .i64 x.pc, (.slice A2x x.mem.length c2x), .int .i64 x.save, .bool x.lets, .bool x.waits, .int .i64 x.halt, (.slice A3x x.ins.length c3x), (.slice A4x x.outs.length c4x), .int .i64 x.count] := hy.bx (Bx.hold hBx_6) (by first | omega | (simp; done) | (simp; omega))
    have hFx_7 : ∀ oo, w7.frozen? ⟨w4.heap.size, oo, none⟩ = false := fun oo => (hy.frozen (by first | omega | (simp; done) | (simp; omega))).trans ((fz_hold hFx_6) oo)
    try clear hBm_6 hFm_6 hBx_6 hFx_6
    clear hy hb1_6 hb4_6 hb6_6
    (refine Plan.float_step (v := ?_) rfl (by rfl) (fun _ _ _ h => h) (fun w' hSw => ?_) ?_; rotate_left; · (go_simp; try with_reducible rfl)); (try simp only [Act.put, List.setIfInBounds_toArray, List.set_cons_zero, List.set_cons_succ])
    iterate 10 ((first | (refine Plan.float_step (v := ?_) rfl (by rfl) (fun _ _ _ h => h) (fun w' hSw => ?_) ?_; rotate_left; · (go_simp; try with_reducible rfl)) | (refine planNo rfl (by rfl) (fun _ _ _ h => h) ?_)); (try simp only [Act.put, List.setIfInBounds_toArray, List.set_cons_zero, List.set_cons_succ]))
    refine Plan.tail_step ?_
    simp only [List.drop_succ_cons, List.drop_zero]
    clear hS
    clear xm0 xm1 xm2 xm3 xm4 xm5 xm6 xm7 xm8 xm9 ym
    clear fm
    clear xx0 xx1 xx2 xx3 xx4 xx5 xx6 xx7 xx8 xx9 yx
    clear fx
    have ym : w1.heap.size < w7.heap.size := by omega
    have xm0 := hBm_7 0 _ rfl
    have xm1 := hBm_7 1 _ rfl
    have xm2 := hBm_7 2 _ rfl
    have xm3 := hBm_7 3 _ rfl
    have xm4 := hBm_7 4 _ rfl
    have xm5 := hBm_7 5 _ rfl
    have xm6 := hBm_7 6 _ rfl
    have xm7 := hBm_7 7 _ rfl
    have xm8 := hBm_7 8 _ rfl
    have xm9 := hBm_7 9 _ rfl
    have fm := hFm_7
    have yx : w4.heap.size < w7.heap.size := by omega
    have xx0 := hBx_7 0 _ rfl
    have xx1 := hBx_7 1 _ rfl
    have xx2 := hBx_7 2 _ rfl
    have xx3 := hBx_7 3 _ rfl
    have xx4 := hBx_7 4 _ rfl
    have xx5 := hBx_7 5 _ rfl
    have xx6 := hBx_7 6 _ rfl
    have xx7 := hBx_7 7 _ rfl
    have xx8 := hBx_7 8 _ rfl
    have xx9 := hBx_7 9 _ rfl
    have fx := hFx_7
    go_wp2_with fail
    go_ret
    exact ⟨rfl, Ext.hold he7⟩
  · 
    have q5 : decide (x.ins = m.ins) = false := decide_eq_false hxi
    have hin : 0 < m.ins.length ∧ x.ins = m.ins.drop 1 := by
      rcases HI.out with e | e
      · exact absurd e hxi
      · exact e
    obtain ⟨hi0, hi1⟩ := hin
    have q6 : decide (0 < (m.ins.length : Int)) = true := decide_eq_true (by omega)
    have q7 : decide (x.ins = m.ins.drop 1) = true := decide_eq_true hi1
    obtain ⟨bI, oI, o3, rfl, hif, hnc, hcm, hdr⟩ := (tm3.ext (Ext.hold hb1_6 : Ext w1 w6)).dropIf hi0
    unfold maxLen at hcm
    have hl1 : (1 : Int) ≤ (m.ins.length : Int) := by omega
    have HI1 := hide hi1
    clear hi1
    have HXI := hide hxi
    clear hxi
    have ym : w1.heap.size < w6.heap.size := by omega
    have xm0 := hBm_6 0 _ rfl
    have xm1 := hBm_6 1 _ rfl
    have xm2 := hBm_6 2 _ rfl
    have xm3 := hBm_6 3 _ rfl
    have xm4 := hBm_6 4 _ rfl
    have xm5 := hBm_6 5 _ rfl
    have xm6 := hBm_6 6 _ rfl
    have xm7 := hBm_6 7 _ rfl
    have xm8 := hBm_6 8 _ rfl
    have xm9 := hBm_6 9 _ rfl
    have fm := hFm_6
    have yx : w4.heap.size < w6.heap.size := by omega
    have xx0 := hBx_6 0 _ rfl
    have xx1 := hBx_6 1 _ rfl
    have xx2 := hBx_6 2 _ rfl
    have xx3 := hBx_6 3 _ rfl
    have xx4 := hBx_6 4 _ rfl
    have xx5 := hBx_6 5 _ rfl
    have xx6 := hBx_6 6 _ rfl
    have xx7 := hBx_6 7 _ rfl
    have xx8 := hBx_6 8 _ rfl
    have xx9 := hBx_6 9 _ rfl
    have fx := hFx_6
    go_upto_region 10 with fail
    have hS : ∀ w', Ext w6 w' → ∀ bb oo, bb < w6.heap.size → w'.cell? ⟨bb, oo, none⟩ = w6.cell? ⟨bb, oo, none⟩ := fun w' hx bb oo hb => hx.cell hb
    refine wp_region_plan (fun w' => Ext w6 w') 16 (.float 0 (.float 1 (.float 2 (.float 3 (.chain 4 (.float 5 (.float 6 (.float 7 (.float 8 (.float 9 (.float 10 (.float 11 (.float 12 (.float 13 (.float 14 (.float 15 (.tail 16))))))))))))))))) (by kernel_rfl) (by kernel_rfl) (Ext.refl _).drew ?_
    iterate 4 ((refine Plan.float_step (v := ?_) rfl (by rfl) (fun _ _ _ h => h) (fun w' hSw => ?_) ?_; rotate_left; · (go_simp; try with_reducible rfl)); (try simp only [Act.put, List.setIfInBounds_toArray, List.set_cons_zero, List.set_cons_succ]))
    refine Plan.chain_step rfl (fun K hK => ?_)
    go_simp
    refine (laInts_any (x.ins) (m.ins) _ _ _ (tx3.ext (Ext.hold hb4_6)) (tm3.ext (Ext.hold hb1_6))).mono ?_
    rintro e w7 ⟨rfl, hy⟩
    refine hK.out _ _ (Ext.trans Ext.auto hy) ?_
    clear hK
    (try simp only [Act.put, List.setIfInBounds_toArray, List.set_cons_zero, List.set_cons_succ])
    have hb6_6 : Ext w6 w6 := Ext.refl _
    have hb1_7 : Ext w1 w7 := Ext.trans (Ext.hold hb1_6) hy
    have hb4_7 : Ext w4 w7 := Ext.trans (Ext.hold hb4_6) hy
    have hb6_7 : Ext w6 w7 := Ext.trans (Ext.hold hb6_6) hy
    have hs7 := hy.size
    try simp at hs7
    have he7 : Ext w w7 := Ext.trans (Ext.hold he6) hy
    have hBm_7 : Bx w7 (w1.heap.size) [(.slice A1m m.regs.length c1m), .int .i64 m.pc, (.slice A2m m.mem.length c2m), .int .i64 m.save, .bool m.lets, .bool m.waits, .int .i64 m.halt, (.slice (some ⟨bI, oI, none⟩) m.ins.length c3m), (.slice A4m m.outs.length c4m), .int .i64 m.count] := hy.bx (Bx.hold hBm_6) (by first | omega | (simp; done) | (simp; omega))
    have hFm_7 : ∀ oo, w7.frozen? ⟨w1.heap.size, oo, none⟩ = false := fun oo => (hy.frozen (by first | omega | (simp; done) | (simp; omega))).trans ((fz_hold hFm_6) oo)
    have hBx_7 : Bx w7 (w4.heap.size) [(.slice A1x x.regs.length c1x), .int .i64 x.pc, (.slice A2x x.mem.length c2x), .int .i64 x.save, .bool x.lets, .bool x.waits, .int .i64 x.halt, (.slice A3x x.ins.length c3x), (.slice A4x x.outs.length c4x), .int .i64 x.count] := hy.bx (Bx.hold hBx_6) (by first | omega | (simp; done) | (simp; omega))
    have hFx_7 : ∀ oo, w7.frozen? ⟨w4.heap.size, oo, none⟩ = false := fun oo => (hy.frozen (by first | omega | (simp; done) | (simp; omega))).trans ((fz_hold hFx_6) oo)
    try clear hBm_6 hFm_6 hBx_6 hFx_6
    clear hy hb1_6 hb4_6 hb6_6
    (refine Plan.float_step (v := ?_) rfl (by rfl) (fun _ _ _ h => h) (fun w' hSw => ?_) ?_; rotate_left; · (go_simp; try with_reducible rfl)); (try simp only [Act.put, List.setIfInBounds_toArray, List.set_cons_zero, List.set_cons_succ])
    iterate 10 ((first | (refine Plan.float_step (v := ?_) rfl (by rfl) (fun _ _ _ h => h) (fun w' hSw => ?_) ?_; rotate_left; · (go_simp; try with_reducible rfl)) | (refine planNo rfl (by rfl) (fun _ _ _ h => h) ?_)); (try simp only [Act.put, List.setIfInBounds_toArray, List.set_cons_zero, List.set_cons_succ]))
    refine Plan.tail_step ?_
    simp only [List.drop_succ_cons, List.drop_zero]
    clear hS
    clear xm0 xm1 xm2 xm3 xm4 xm5 xm6 xm7 xm8 xm9 ym
    clear fm
    clear xx0 xx1 xx2 xx3 xx4 xx5 xx6 xx7 xx8 xx9 yx
    clear fx
    have ym : w1.heap.size < w7.heap.size := by omega
    have xm0 := hBm_7 0 _ rfl
    have xm1 := hBm_7 1 _ rfl
    have xm2 := hBm_7 2 _ rfl
    have xm3 := hBm_7 3 _ rfl
    have xm4 := hBm_7 4 _ rfl
    have xm5 := hBm_7 5 _ rfl
    have xm6 := hBm_7 6 _ rfl
    have xm7 := hBm_7 7 _ rfl
    have xm8 := hBm_7 8 _ rfl
    have xm9 := hBm_7 9 _ rfl
    have fm := hFm_7
    have yx : w4.heap.size < w7.heap.size := by omega
    have xx0 := hBx_7 0 _ rfl
    have xx1 := hBx_7 1 _ rfl
    have xx2 := hBx_7 2 _ rfl
    have xx3 := hBx_7 3 _ rfl
    have xx4 := hBx_7 4 _ rfl
    have xx5 := hBx_7 5 _ rfl
    have xx6 := hBx_7 6 _ rfl
    have xx7 := hBx_7 7 _ rfl
    have xx8 := hBx_7 8 _ rfl
    have xx9 := hBx_7 9 _ rfl
    have fx := hFx_7
    go_wp2_with fail
    refine (laInts_any x.ins (m.ins.drop 1) _ _ _ (tx3.ext (Ext.hold hb4_7)) (hdr.ext (Ext.hold hb6_7))).mono ?_
    rintro e w8 ⟨rfl, hy⟩
    simp only [q7]
    clear xm0 xm1 xm2 xm3 xm4 xm5 xm6 xm7 xm8 xm9 ym
    clear fm
    clear xx0 xx1 xx2 xx3 xx4 xx5 xx6 xx7 xx8 xx9 yx
    clear fx
    have hb1_8 : Ext w1 w8 := Ext.trans (Ext.hold hb1_7) hy
    have hb4_8 : Ext w4 w8 := Ext.trans (Ext.hold hb4_7) hy
    have hs8 := hy.size
    try simp at hs8
    have he8 : Ext w w8 := Ext.trans (Ext.hold he7) hy
    have hBm_8 : Bx w8 (w1.heap.size) [(.slice A1m m.regs.length c1m), .int .i64 m.pc, (.slice A2m m.mem.length c2m), .int .i64 m.save, .bool m.lets, .bool m.waits, .int .i64 m.halt, (.slice (some ⟨bI, oI, none⟩) m.ins.length c3m), (.slice A4m m.outs.length c4m), .int .i64 m.count] := hy.bx (Bx.hold hBm_7) (by first | omega | (simp; done) | (simp; omega))
    have hFm_8 : ∀ oo, w8.frozen? ⟨w1.heap.size, oo, none⟩ = false := fun oo => (hy.frozen (by first | omega | (simp; done) | (simp; omega))).trans ((fz_hold hFm_7) oo)
    have hBx_8 : Bx w8 (w4.heap.size) [(.slice A1x x.regs.length c1x), .int .i64 x.pc, (.slice A2x x.mem.length c2x), .int .i64 x.save, .bool x.lets, .bool x.waits, .int .i64 x.halt, (.slice A3x x.ins.length c3x), (.slice A4x x.outs.length c4x), .int .i64 x.count] := hy.bx (Bx.hold hBx_7) (by first | omega | (simp; done) | (simp; omega))
    have hFx_8 : ∀ oo, w8.frozen? ⟨w4.heap.size, oo, none⟩ = false := fun oo => (hy.frozen (by first | omega | (simp; done) | (simp; omega))).trans ((fz_hold hFx_7) oo)
    try clear hBm_7 hFm_7 hBx_7 hFx_7
    clear hy hb1_7 hb4_7
    go_wp2_with fail
    go_ret
    exact ⟨rfl, Ext.hold he8⟩

end Go.Proofs.YtabldlhigjhkeaaDoor
