/-
  The law FnMchNext returns true for every input.
-/
import Derived.Test.YtabldlhigjhkeaaDoorLawStep
import Derived.Test.YtabldlhigjhkeaaDoorLawPure
import Derived.Test.YtabldlhigjhkeaaDoorRegLib
import Derived.Deep.DeepCutAuto
namespace Go.Proofs.YtabldlhigjhkeaaDoor
open Go.RowKit

set_option linter.unusedVariables false
set_option linter.unusedSimpArgs false
set_option maxRecDepth 100000

theorem implInsEnds_any (op : Int) (w : World) : Calls Tryd.prog 32 #[.int .i64 op] w fun e w' => e = .returned (.bool (endsB op)) ∧ w = w' := by
  have HE := hide (show inB op 11 13 = endsB op by
    unfold inB endsB
    rw [Bool.eq_iff_iff]
    simp
    omega)
  go_enter Tryd.func32, Tryd.ntmps32
  go_wp2_with (go_at_call 59; refine (in_any _ _ _ _).mono ?_; rintro e w' ⟨rfl, rfl⟩)
  go_ret
  exact ⟨by rw [← HE.out]; rfl, rfl⟩

set_option maxHeartbeats 64000000 in
theorem lawMchNext_any (code : List UInt8) (v : Value) (w : World) (h : Sl w (Old w) v code) (lf : Nat) (hF : Forms lf w) : Calls Tryd.prog 6 #[v] w fun e w' => e = .returned (.bool true) ∧ Ext w w' := by
  obtain ⟨Ac, cc, rfl, -, -⟩ := h.form
  by_cases hbig : 1048576 < code.length
  · have q1 : decide (1048576 < (code.length : Int)) = true := decide_eq_true (by omega)
    go_enter Tryd.func6, Tryd.ntmps6
    go_wp2
    go_ret
    exact ⟨rfl, Ext.refl _⟩
  have q1 : decide (1048576 < (code.length : Int)) = false := decide_eq_false (by omega)
  go_enter Tryd.func6, Tryd.ntmps6
  go_wp2_with fail
  refine (drawMchStep_any code _ _ h).mono ?_
  intro e w1 hd
  unfold DStep at hd
  obtain ⟨m, A1m, A2m, A3m, A4m, c1m, c2m, c3m, c4m, b, rfl, ⟨hl1, hl2, hl3, hl4⟩, tm1, tm2, tm3, tm4, he1⟩ := hd
  have hs1 := he1.size
  have hb1_1 : Ext w1 w1 := Ext.refl _
  have HIW := hide True.intro
  clear q1 hbig
  go_upto_region 4 with fail
  have he2 : Ext w (w1.alloc (Obj.cells #[(.slice A1m m.regs.length c1m), .int .i64 m.pc, (.slice A2m m.mem.length c2m), .int .i64 m.save, .bool m.lets, .bool m.waits, .int .i64 m.halt, (.slice A3m m.ins.length c3m), (.slice A4m m.outs.length c4m), .int .i64 m.count] 26)) := Ext.hold he1
  have hs2 : w1.heap.size + 1 ≤ ((w1.alloc (Obj.cells #[(.slice A1m m.regs.length c1m), .int .i64 m.pc, (.slice A2m m.mem.length c2m), .int .i64 m.save, .bool m.lets, .bool m.waits, .int .i64 m.halt, (.slice A3m m.ins.length c3m), (.slice A4m m.outs.length c4m), .int .i64 m.count] 26))).heap.size := by simp
  have hb1_2 : Ext w1 (w1.alloc (Obj.cells #[(.slice A1m m.regs.length c1m), .int .i64 m.pc, (.slice A2m m.mem.length c2m), .int .i64 m.save, .bool m.lets, .bool m.waits, .int .i64 m.halt, (.slice A3m m.ins.length c3m), (.slice A4m m.outs.length c4m), .int .i64 m.count] 26)) := Ext.hold hb1_1
  have hBm_2 : Bx (w1.alloc (Obj.cells #[(.slice A1m m.regs.length c1m), .int .i64 m.pc, (.slice A2m m.mem.length c2m), .int .i64 m.save, .bool m.lets, .bool m.waits, .int .i64 m.halt, (.slice A3m m.ins.length c3m), (.slice A4m m.outs.length c4m), .int .i64 m.count] 26)) (w1.heap.size) [(.slice A1m m.regs.length c1m), .int .i64 m.pc, (.slice A2m m.mem.length c2m), .int .i64 m.save, .bool m.lets, .bool m.waits, .int .i64 m.halt, (.slice A3m m.ins.length c3m), (.slice A4m m.outs.length c4m), .int .i64 m.count] := Bx.new w1 #[(.slice A1m m.regs.length c1m), .int .i64 m.pc, (.slice A2m m.mem.length c2m), .int .i64 m.save, .bool m.lets, .bool m.waits, .int .i64 m.halt, (.slice A3m m.ins.length c3m), (.slice A4m m.outs.length c4m), .int .i64 m.count] 26
  have hFm_2 : ∀ oo, (w1.alloc (Obj.cells #[(.slice A1m m.regs.length c1m), .int .i64 m.pc, (.slice A2m m.mem.length c2m), .int .i64 m.save, .bool m.lets, .bool m.waits, .int .i64 m.halt, (.slice A3m m.ins.length c3m), (.slice A4m m.outs.length c4m), .int .i64 m.count] 26)).frozen? ⟨w1.heap.size, oo, none⟩ = false := fz_new w1 #[(.slice A1m m.regs.length c1m), .int .i64 m.pc, (.slice A2m m.mem.length c2m), .int .i64 m.save, .bool m.lets, .bool m.waits, .int .i64 m.halt, (.slice A3m m.ins.length c3m), (.slice A4m m.outs.length c4m), .int .i64 m.count] 26 rfl
  generalize (w1.alloc (Obj.cells #[(.slice A1m m.regs.length c1m), .int .i64 m.pc, (.slice A2m m.mem.length c2m), .int .i64 m.save, .bool m.lets, .bool m.waits, .int .i64 m.halt, (.slice A3m m.ins.length c3m), (.slice A4m m.outs.length c4m), .int .i64 m.count] 26)) = w2 at *
  clear hb1_1
  cases q0 : mchOkB m
  · 
    have ym : w1.heap.size < w2.heap.size := by omega
    have xm0 := hBm_2 0 _ rfl
    have xm1 := hBm_2 1 _ rfl
    have xm2 := hBm_2 2 _ rfl
    have xm3 := hBm_2 3 _ rfl
    have xm4 := hBm_2 4 _ rfl
    have xm5 := hBm_2 5 _ rfl
    have xm6 := hBm_2 6 _ rfl
    have xm7 := hBm_2 7 _ rfl
    have xm8 := hBm_2 8 _ rfl
    have xm9 := hBm_2 9 _ rfl
    have fm := hFm_2
    go_wp2_with fail
    refine (specMchOk_any m _ _ _ _ _ (tm1.ext (Ext.hold hb1_2)) (tm2.ext (Ext.hold hb1_2)) (tm3.ext (Ext.hold hb1_2)) (tm4.ext (Ext.hold hb1_2))).mono ?_
    rintro e w3 ⟨rfl, hy⟩
    simp only [q0]
    clear xm0 xm1 xm2 xm3 xm4 xm5 xm6 xm7 xm8 xm9 ym
    clear fm
    have hb1_3 : Ext w1 w3 := Ext.trans (Ext.hold hb1_2) hy
    have hs3 := hy.size
    try simp at hs3
    have he3 : Ext w w3 := Ext.trans (Ext.hold he2) hy
    have hBm_3 : Bx w3 (w1.heap.size) [(.slice A1m m.regs.length c1m), .int .i64 m.pc, (.slice A2m m.mem.length c2m), .int .i64 m.save, .bool m.lets, .bool m.waits, .int .i64 m.halt, (.slice A3m m.ins.length c3m), (.slice A4m m.outs.length c4m), .int .i64 m.count] := hy.bx (Bx.hold hBm_2) (by first | omega | (simp; done) | (simp; omega))
    have hFm_3 : ∀ oo, w3.frozen? ⟨w1.heap.size, oo, none⟩ = false := fun oo => (hy.frozen (by first | omega | (simp; done) | (simp; omega))).trans ((fz_hold hFm_2) oo)
    try clear hBm_2 hFm_2
    clear hy hb1_2
    have ym : w1.heap.size < w3.heap.size := by omega
    have xm0 := hBm_3 0 _ rfl
    have xm1 := hBm_3 1 _ rfl
    have xm2 := hBm_3 2 _ rfl
    have xm3 := hBm_3 3 _ rfl
    have xm4 := hBm_3 4 _ rfl
    have xm5 := hBm_3 5 _ rfl
    have xm6 := hBm_3 6 _ rfl
    have xm7 := hBm_3 7 _ rfl
    have xm8 := hBm_3 8 _ rfl
    have xm9 := hBm_3 9 _ rfl
    have fm := hFm_3
    go_wp2_with (go_at_call 30; refine (laOk_any _).mono ?_; rintro e w' ⟨rfl, rfl⟩)
    go_ret
    exact ⟨rfl, Ext.hold he3⟩
  · 
    have ym : w1.heap.size < w2.heap.size := by omega
    have xm0 := hBm_2 0 _ rfl
    have xm1 := hBm_2 1 _ rfl
    have xm2 := hBm_2 2 _ rfl
    have xm3 := hBm_2 3 _ rfl
    have xm4 := hBm_2 4 _ rfl
    have xm5 := hBm_2 5 _ rfl
    have xm6 := hBm_2 6 _ rfl
    have xm7 := hBm_2 7 _ rfl
    have xm8 := hBm_2 8 _ rfl
    have xm9 := hBm_2 9 _ rfl
    have fm := hFm_2
    go_wp2_with fail
    refine (specMchOk_any m _ _ _ _ _ (tm1.ext (Ext.hold hb1_2)) (tm2.ext (Ext.hold hb1_2)) (tm3.ext (Ext.hold hb1_2)) (tm4.ext (Ext.hold hb1_2))).mono ?_
    rintro e w3 ⟨rfl, hy⟩
    simp only [q0]
    clear xm0 xm1 xm2 xm3 xm4 xm5 xm6 xm7 xm8 xm9 ym
    clear fm
    have hb1_3 : Ext w1 w3 := Ext.trans (Ext.hold hb1_2) hy
    have hs3 := hy.size
    try simp at hs3
    have he3 : Ext w w3 := Ext.trans (Ext.hold he2) hy
    have hBm_3 : Bx w3 (w1.heap.size) [(.slice A1m m.regs.length c1m), .int .i64 m.pc, (.slice A2m m.mem.length c2m), .int .i64 m.save, .bool m.lets, .bool m.waits, .int .i64 m.halt, (.slice A3m m.ins.length c3m), (.slice A4m m.outs.length c4m), .int .i64 m.count] := hy.bx (Bx.hold hBm_2) (by first | omega | (simp; done) | (simp; omega))
    have hFm_3 : ∀ oo, w3.frozen? ⟨w1.heap.size, oo, none⟩ = false := fun oo => (hy.frozen (by first | omega | (simp; done) | (simp; omega))).trans ((fz_hold hFm_2) oo)
    try clear hBm_2 hFm_2
    clear hy hb1_2
    have hk := mOk_iff.1 q0
    have hp0 := hk.p0
    have HK := hide hk
    have hc1 := hk.c1
    clear hk
    rcases Bool.eq_false_or_eq_true m.waits with hw | hw
    · 
      have ym : w1.heap.size < w3.heap.size := by omega
      have xm0 := hBm_3 0 _ rfl
      have xm1 := hBm_3 1 _ rfl
      have xm2 := hBm_3 2 _ rfl
      have xm3 := hBm_3 3 _ rfl
      have xm4 := hBm_3 4 _ rfl
      have xm5 := hBm_3 5 _ rfl
      have xm6 := hBm_3 6 _ rfl
      have xm7 := hBm_3 7 _ rfl
      have xm8 := hBm_3 8 _ rfl
      have xm9 := hBm_3 9 _ rfl
      have fm := hFm_3
      go_wp2_with (go_at_call 30; refine (laOk_any _).mono ?_; rintro e w' ⟨rfl, rfl⟩)
      go_ret
      exact ⟨rfl, Ext.hold he3⟩
    · 
      by_cases h0 : m.halt = 0
      · 
        by_cases h1 : m.count = 1000000
        · 
          have q1 : (m.halt != 0) = false := by simp [h0]
          have q2 : (m.count == 1000000) = true := by simp [h1]
          clear h0 h1
          have ym : w1.heap.size < w3.heap.size := by omega
          have xm0 := hBm_3 0 _ rfl
          have xm1 := hBm_3 1 _ rfl
          have xm2 := hBm_3 2 _ rfl
          have xm3 := hBm_3 3 _ rfl
          have xm4 := hBm_3 4 _ rfl
          have xm5 := hBm_3 5 _ rfl
          have xm6 := hBm_3 6 _ rfl
          have xm7 := hBm_3 7 _ rfl
          have xm8 := hBm_3 8 _ rfl
          have xm9 := hBm_3 9 _ rfl
          have fm := hFm_3
          go_wp2_with (go_at_call 30; refine (laOk_any _).mono ?_; rintro e w' ⟨rfl, rfl⟩)
          go_ret
          exact ⟨rfl, Ext.hold he3⟩
        · 
          have q1 : (m.halt != 0) = false := by simp [h0]
          have q2 : (m.count == 1000000) = false := by simp [h1]
          have hg := mGoes_iff.2 ⟨h0, show m.count < 1000000 by omega⟩
          have HG := hide hg
          have H0 := hide h0
          clear h0 h1 hg
          by_cases h2 : 64 ≤ m.pc
          · 
            have q3 : decide (64 ≤ m.pc) = true := decide_eq_true h2
            have ym : w1.heap.size < w3.heap.size := by omega
            have xm0 := hBm_3 0 _ rfl
            have xm1 := hBm_3 1 _ rfl
            have xm2 := hBm_3 2 _ rfl
            have xm3 := hBm_3 3 _ rfl
            have xm4 := hBm_3 4 _ rfl
            have xm5 := hBm_3 5 _ rfl
            have xm6 := hBm_3 6 _ rfl
            have xm7 := hBm_3 7 _ rfl
            have xm8 := hBm_3 8 _ rfl
            have xm9 := hBm_3 9 _ rfl
            have fm := hFm_3
            go_wp2_with (go_at_call 30; refine (laOk_any _).mono ?_; rintro e w' ⟨rfl, rfl⟩)
            go_ret
            exact ⟨rfl, Ext.hold he3⟩
          · 
            have q3 : decide (64 ≤ m.pc) = false := decide_eq_false h2
            have ym : w1.heap.size < w3.heap.size := by omega
            have xm0 := hBm_3 0 _ rfl
            have xm1 := hBm_3 1 _ rfl
            have xm2 := hBm_3 2 _ rfl
            have xm3 := hBm_3 3 _ rfl
            have xm4 := hBm_3 4 _ rfl
            have xm5 := hBm_3 5 _ rfl
            have xm6 := hBm_3 6 _ rfl
            have xm7 := hBm_3 7 _ rfl
            have xm8 := hBm_3 8 _ rfl
            have xm9 := hBm_3 9 _ rfl
            have fm := hFm_3
            go_upto_region 6 with fail
            clear xm0 xm1 xm2 xm3 xm4 xm5 xm6 xm7 xm8 xm9 ym
            clear fm
            have HW := hide hw
            clear hw q1 q2 q3
            have ym : w1.heap.size < w3.heap.size := by omega
            have xm0 := hBm_3 0 _ rfl
            have xm1 := hBm_3 1 _ rfl
            have xm2 := hBm_3 2 _ rfl
            have xm3 := hBm_3 3 _ rfl
            have xm4 := hBm_3 4 _ rfl
            have xm5 := hBm_3 5 _ rfl
            have xm6 := hBm_3 6 _ rfl
            have xm7 := hBm_3 7 _ rfl
            have xm8 := hBm_3 8 _ rfl
            have xm9 := hBm_3 9 _ rfl
            have fm := hFm_3
            go_wp2_with fail
            refine (implStep_r m false _ _ _ _ _ (tm1.ext (Ext.hold hb1_3)) (tm2.ext (Ext.hold hb1_3)) (tm3.ext (Ext.hold hb1_3)) (tm4.ext (Ext.hold hb1_3)) (by omega) (by omega) (by omega) (by omega) (by omega) lf (hF.ext (Ext.hold he3))).mono ?_
            intro e w4 hr
            unfold MRet at hr
            obtain ⟨A1x, A2x, A3x, A4x, c1x, c2x, c3x, c4x, rfl, tx1, tx2, tx3, tx4, hy⟩ := hr
            have HX0 := hide (rfl : mStep m false = mStep m false)
            generalize hgx : mStep m false = x at *
            have HX := hide hgx
            clear hgx
            clear xm0 xm1 xm2 xm3 xm4 xm5 xm6 xm7 xm8 xm9 ym
            clear fm
            have hb1_4 : Ext w1 w4 := Ext.trans (Ext.hold hb1_3) hy
            have hs4 := hy.size
            try simp at hs4
            have he4 : Ext w w4 := Ext.trans (Ext.hold he3) hy
            have hBm_4 : Bx w4 (w1.heap.size) [(.slice A1m m.regs.length c1m), .int .i64 m.pc, (.slice A2m m.mem.length c2m), .int .i64 m.save, .bool m.lets, .bool m.waits, .int .i64 m.halt, (.slice A3m m.ins.length c3m), (.slice A4m m.outs.length c4m), .int .i64 m.count] := hy.bx (Bx.hold hBm_3) (by first | omega | (simp; done) | (simp; omega))
            have hFm_4 : ∀ oo, w4.frozen? ⟨w1.heap.size, oo, none⟩ = false := fun oo => (hy.frozen (by first | omega | (simp; done) | (simp; omega))).trans ((fz_hold hFm_3) oo)
            try clear hBm_3 hFm_3
            clear hy hb1_3
            have hb4_4 : Ext w4 w4 := Ext.refl _
            have ym : w1.heap.size < w4.heap.size := by omega
            have xm0 := hBm_4 0 _ rfl
            have xm1 := hBm_4 1 _ rfl
            have xm2 := hBm_4 2 _ rfl
            have xm3 := hBm_4 3 _ rfl
            have xm4 := hBm_4 4 _ rfl
            have xm5 := hBm_4 5 _ rfl
            have xm6 := hBm_4 6 _ rfl
            have xm7 := hBm_4 7 _ rfl
            have xm8 := hBm_4 8 _ rfl
            have xm9 := hBm_4 9 _ rfl
            have fm := hFm_4
            go_upto_region 7 with fail
            clear xm0 xm1 xm2 xm3 xm4 xm5 xm6 xm7 xm8 xm9 ym
            clear fm
            have he5 : Ext w (w4.alloc (Obj.cells #[(.slice A1x x.regs.length c1x), .int .i64 x.pc, (.slice A2x x.mem.length c2x), .int .i64 x.save, .bool x.lets, .bool x.waits, .int .i64 x.halt, (.slice A3x x.ins.length c3x), (.slice A4x x.outs.length c4x), .int .i64 x.count] 26)) := Ext.hold he4
            have hs5 : w4.heap.size + 1 ≤ ((w4.alloc (Obj.cells #[(.slice A1x x.regs.length c1x), .int .i64 x.pc, (.slice A2x x.mem.length c2x), .int .i64 x.save, .bool x.lets, .bool x.waits, .int .i64 x.halt, (.slice A3x x.ins.length c3x), (.slice A4x x.outs.length c4x), .int .i64 x.count] 26))).heap.size := by simp
            have hb1_5 : Ext w1 (w4.alloc (Obj.cells #[(.slice A1x x.regs.length c1x), .int .i64 x.pc, (.slice A2x x.mem.length c2x), .int .i64 x.save, .bool x.lets, .bool x.waits, .int .i64 x.halt, (.slice A3x x.ins.length c3x), (.slice A4x x.outs.length c4x), .int .i64 x.count] 26)) := Ext.hold hb1_4
            have hb4_5 : Ext w4 (w4.alloc (Obj.cells #[(.slice A1x x.regs.length c1x), .int .i64 x.pc, (.slice A2x x.mem.length c2x), .int .i64 x.save, .bool x.lets, .bool x.waits, .int .i64 x.halt, (.slice A3x x.ins.length c3x), (.slice A4x x.outs.length c4x), .int .i64 x.count] 26)) := Ext.hold hb4_4
            have hBm_5 : Bx (w4.alloc (Obj.cells #[(.slice A1x x.regs.length c1x), .int .i64 x.pc, (.slice A2x x.mem.length c2x), .int .i64 x.save, .bool x.lets, .bool x.waits, .int .i64 x.halt, (.slice A3x x.ins.length c3x), (.slice A4x x.outs.length c4x), .int .i64 x.count] 26)) (w1.heap.size) [(.slice A1m m.regs.length c1m), .int .i64 m.pc, (.slice A2m m.mem.length c2m), .int .i64 m.save, .bool m.lets, .bool m.waits, .int .i64 m.halt, (.slice A3m m.ins.length c3m), (.slice A4m m.outs.length c4m), .int .i64 m.count] := Bx.hold hBm_4
            have hFm_5 : ∀ oo, (w4.alloc (Obj.cells #[(.slice A1x x.regs.length c1x), .int .i64 x.pc, (.slice A2x x.mem.length c2x), .int .i64 x.save, .bool x.lets, .bool x.waits, .int .i64 x.halt, (.slice A3x x.ins.length c3x), (.slice A4x x.outs.length c4x), .int .i64 x.count] 26)).frozen? ⟨w1.heap.size, oo, none⟩ = false := fz_hold hFm_4
            have hBx_5 : Bx (w4.alloc (Obj.cells #[(.slice A1x x.regs.length c1x), .int .i64 x.pc, (.slice A2x x.mem.length c2x), .int .i64 x.save, .bool x.lets, .bool x.waits, .int .i64 x.halt, (.slice A3x x.ins.length c3x), (.slice A4x x.outs.length c4x), .int .i64 x.count] 26)) (w4.heap.size) [(.slice A1x x.regs.length c1x), .int .i64 x.pc, (.slice A2x x.mem.length c2x), .int .i64 x.save, .bool x.lets, .bool x.waits, .int .i64 x.halt, (.slice A3x x.ins.length c3x), (.slice A4x x.outs.length c4x), .int .i64 x.count] := Bx.new w4 #[(.slice A1x x.regs.length c1x), .int .i64 x.pc, (.slice A2x x.mem.length c2x), .int .i64 x.save, .bool x.lets, .bool x.waits, .int .i64 x.halt, (.slice A3x x.ins.length c3x), (.slice A4x x.outs.length c4x), .int .i64 x.count] 26
            have hFx_5 : ∀ oo, (w4.alloc (Obj.cells #[(.slice A1x x.regs.length c1x), .int .i64 x.pc, (.slice A2x x.mem.length c2x), .int .i64 x.save, .bool x.lets, .bool x.waits, .int .i64 x.halt, (.slice A3x x.ins.length c3x), (.slice A4x x.outs.length c4x), .int .i64 x.count] 26)).frozen? ⟨w4.heap.size, oo, none⟩ = false := fz_new w4 #[(.slice A1x x.regs.length c1x), .int .i64 x.pc, (.slice A2x x.mem.length c2x), .int .i64 x.save, .bool x.lets, .bool x.waits, .int .i64 x.halt, (.slice A3x x.ins.length c3x), (.slice A4x x.outs.length c4x), .int .i64 x.count] 26 rfl
            generalize (w4.alloc (Obj.cells #[(.slice A1x x.regs.length c1x), .int .i64 x.pc, (.slice A2x x.mem.length c2x), .int .i64 x.save, .bool x.lets, .bool x.waits, .int .i64 x.halt, (.slice A3x x.ins.length c3x), (.slice A4x x.outs.length c4x), .int .i64 x.count] 26)) = w5 at *
            clear hBm_4 hFm_4 hb1_4 hb4_4
            have hpl : m.pc.toNat < m.mem.length := by have := HK.out.ml; omega
            obtain ⟨bm, om, rfl, hbm, hkm, e0⟩ := at_Int (tm2.ext (show Ext w1 w5 from Ext.hold hb1_5)) hpl
            have z0 : m.pc < (m.mem.length : Int) := by have := HK.out.ml; omega
            have hwd : m.mem[m.pc.toNat] = m.word m.pc := by unfold MchMach.word; rw [List.getElem?_eq_getElem hpl]; rfl
            rw [hwd] at e0
            clear hwd
            have ym : w1.heap.size < w5.heap.size := by omega
            have xm0 := hBm_5 0 _ rfl
            have xm1 := hBm_5 1 _ rfl
            have xm2 := hBm_5 2 _ rfl
            have xm3 := hBm_5 3 _ rfl
            have xm4 := hBm_5 4 _ rfl
            have xm5 := hBm_5 5 _ rfl
            have xm6 := hBm_5 6 _ rfl
            have xm7 := hBm_5 7 _ rfl
            have xm8 := hBm_5 8 _ rfl
            have xm9 := hBm_5 9 _ rfl
            have fm := hFm_5
            have yx : w4.heap.size < w5.heap.size := by omega
            have xx0 := hBx_5 0 _ rfl
            have xx1 := hBx_5 1 _ rfl
            have xx2 := hBx_5 2 _ rfl
            have xx3 := hBx_5 3 _ rfl
            have xx4 := hBx_5 4 _ rfl
            have xx5 := hBx_5 5 _ rfl
            have xx6 := hBx_5 6 _ rfl
            have xx7 := hBx_5 7 _ rfl
            have xx8 := hBx_5 8 _ rfl
            have xx9 := hBx_5 9 _ rfl
            have fx := hFx_5
            go_wp2_with fail
            refine (implInsTake_any (m.word m.pc) _ lf (hF.ext (Ext.hold he5))).mono ?_
            rintro e w6 ⟨rfl, hy⟩
            clear e0
            clear xm0 xm1 xm2 xm3 xm4 xm5 xm6 xm7 xm8 xm9 ym
            clear fm
            clear xx0 xx1 xx2 xx3 xx4 xx5 xx6 xx7 xx8 xx9 yx
            clear fx
            have hb1_6 : Ext w1 w6 := Ext.trans (Ext.hold hb1_5) hy
            have hb4_6 : Ext w4 w6 := Ext.trans (Ext.hold hb4_5) hy
            have hs6 := hy.size
            try simp at hs6
            have he6 : Ext w w6 := Ext.trans (Ext.hold he5) hy
            have hBm_6 : Bx w6 (w1.heap.size) [(.slice A1m m.regs.length c1m), .int .i64 m.pc, (.slice (some ⟨bm, om, none⟩) m.mem.length c2m), .int .i64 m.save, .bool m.lets, .bool m.waits, .int .i64 m.halt, (.slice A3m m.ins.length c3m), (.slice A4m m.outs.length c4m), .int .i64 m.count] := hy.bx (Bx.hold hBm_5) (by first | omega | (simp; done) | (simp; omega))
            have hFm_6 : ∀ oo, w6.frozen? ⟨w1.heap.size, oo, none⟩ = false := fun oo => (hy.frozen (by first | omega | (simp; done) | (simp; omega))).trans ((fz_hold hFm_5) oo)
            have hBx_6 : Bx w6 (w4.heap.size) [(.slice A1x x.regs.length c1x), .int .i64 x.pc, (.slice A2x x.mem.length c2x), .int .i64 x.save, .bool x.lets, .bool x.waits, .int .i64 x.halt, (.slice A3x x.ins.length c3x), (.slice A4x x.outs.length c4x), .int .i64 x.count] := hy.bx (Bx.hold hBx_5) (by first | omega | (simp; done) | (simp; omega))
            have hFx_6 : ∀ oo, w6.frozen? ⟨w4.heap.size, oo, none⟩ = false := fun oo => (hy.frozen (by first | omega | (simp; done) | (simp; omega))).trans ((fz_hold hFx_5) oo)
            try clear hBm_5 hFm_5 hBx_5 hFx_5
            clear hy hb1_5 hb4_5
            have HND := hide (mNext_do HK.out HG.out HW.out (by omega))
            have HNN := hide (mNext_no HK.out HG.out HW.out (by omega))
            rw [HX.out] at HND HNN
            generalize insTake (m.word m.pc) = i at *
            generalize insTakeB (m.word m.pc) = ok at *
            have ym : w1.heap.size < w6.heap.size := by omega
            have xm0 := hBm_6 0 _ rfl
            have xm1 := hBm_6 1 _ rfl
            have xm2 := hBm_6 2 _ rfl
            have xm3 := hBm_6 3 _ rfl
            have xm4 := hBm_6 4 _ rfl
            have xm5 := hBm_6 5 _ rfl
            have xm6 := hBm_6 6 _ rfl
            have xm7 := hBm_6 7 _ rfl
            have xm8 := hBm_6 8 _ rfl
            have xm9 := hBm_6 9 _ rfl
            have fm := hFm_6
            have yx : w4.heap.size < w6.heap.size := by omega
            have xx0 := hBx_6 0 _ rfl
            have xx1 := hBx_6 1 _ rfl
            have xx2 := hBx_6 2 _ rfl
            have xx3 := hBx_6 3 _ rfl
            have xx4 := hBx_6 4 _ rfl
            have xx5 := hBx_6 5 _ rfl
            have xx6 := hBx_6 6 _ rfl
            have xx7 := hBx_6 7 _ rfl
            have xx8 := hBx_6 8 _ rfl
            have xx9 := hBx_6 9 _ rfl
            have fx := hFx_6
            go_upto_region 8 with fail
            clear xm0 xm1 xm2 xm3 xm4 xm5 xm6 xm7 xm8 xm9 ym
            clear fm
            clear xx0 xx1 xx2 xx3 xx4 xx5 xx6 xx7 xx8 xx9 yx
            clear fx
            have he7 : Ext w (w6.alloc (Obj.cells #[.int .i64 i.op, .int .i64 i.d, .int .i64 i.a, .int .i64 i.k] 44)) := Ext.hold he6
            have hs7 : w6.heap.size + 1 ≤ ((w6.alloc (Obj.cells #[.int .i64 i.op, .int .i64 i.d, .int .i64 i.a, .int .i64 i.k] 44))).heap.size := by simp
            have hb1_7 : Ext w1 (w6.alloc (Obj.cells #[.int .i64 i.op, .int .i64 i.d, .int .i64 i.a, .int .i64 i.k] 44)) := Ext.hold hb1_6
            have hb4_7 : Ext w4 (w6.alloc (Obj.cells #[.int .i64 i.op, .int .i64 i.d, .int .i64 i.a, .int .i64 i.k] 44)) := Ext.hold hb4_6
            have hBm_7 : Bx (w6.alloc (Obj.cells #[.int .i64 i.op, .int .i64 i.d, .int .i64 i.a, .int .i64 i.k] 44)) (w1.heap.size) [(.slice A1m m.regs.length c1m), .int .i64 m.pc, (.slice (some ⟨bm, om, none⟩) m.mem.length c2m), .int .i64 m.save, .bool m.lets, .bool m.waits, .int .i64 m.halt, (.slice A3m m.ins.length c3m), (.slice A4m m.outs.length c4m), .int .i64 m.count] := Bx.hold hBm_6
            have hFm_7 : ∀ oo, (w6.alloc (Obj.cells #[.int .i64 i.op, .int .i64 i.d, .int .i64 i.a, .int .i64 i.k] 44)).frozen? ⟨w1.heap.size, oo, none⟩ = false := fz_hold hFm_6
            have hBx_7 : Bx (w6.alloc (Obj.cells #[.int .i64 i.op, .int .i64 i.d, .int .i64 i.a, .int .i64 i.k] 44)) (w4.heap.size) [(.slice A1x x.regs.length c1x), .int .i64 x.pc, (.slice A2x x.mem.length c2x), .int .i64 x.save, .bool x.lets, .bool x.waits, .int .i64 x.halt, (.slice A3x x.ins.length c3x), (.slice A4x x.outs.length c4x), .int .i64 x.count] := Bx.hold hBx_6
            have hFx_7 : ∀ oo, (w6.alloc (Obj.cells #[.int .i64 i.op, .int .i64 i.d, .int .i64 i.a, .int .i64 i.k] 44)).frozen? ⟨w4.heap.size, oo, none⟩ = false := fz_hold hFx_6
            have hBi_7 : Bx (w6.alloc (Obj.cells #[.int .i64 i.op, .int .i64 i.d, .int .i64 i.a, .int .i64 i.k] 44)) (w6.heap.size) [.int .i64 i.op, .int .i64 i.d, .int .i64 i.a, .int .i64 i.k] := Bx.new w6 #[.int .i64 i.op, .int .i64 i.d, .int .i64 i.a, .int .i64 i.k] 44
            have hFi_7 : ∀ oo, (w6.alloc (Obj.cells #[.int .i64 i.op, .int .i64 i.d, .int .i64 i.a, .int .i64 i.k] 44)).frozen? ⟨w6.heap.size, oo, none⟩ = false := fz_new w6 #[.int .i64 i.op, .int .i64 i.d, .int .i64 i.a, .int .i64 i.k] 44 rfl
            generalize (w6.alloc (Obj.cells #[.int .i64 i.op, .int .i64 i.d, .int .i64 i.a, .int .i64 i.k] 44)) = w7 at *
            clear hBm_6 hFm_6 hBx_6 hFx_6 hb1_6 hb4_6
            cases ok
            · 
              have hn := HNN.out rfl
              have q1 : (x.halt == 2) = true := by simp [hn.1]
              have q2 : (x.pc == m.pc) = true := by simp [hn.2]
              clear hn
              have ym : w1.heap.size < w7.heap.size := by omega
              have xm0 := hBm_7 0 _ rfl
              have xm1 := hBm_7 1 _ rfl
              have xm2 := hBm_7 2 _ rfl
              have xm3 := hBm_7 3 _ rfl
              have xm4 := hBm_7 4 _ rfl
              have xm5 := hBm_7 5 _ rfl
              have xm6 := hBm_7 6 _ rfl
              have xm7 := hBm_7 7 _ rfl
              have xm8 := hBm_7 8 _ rfl
              have xm9 := hBm_7 9 _ rfl
              have fm := hFm_7
              have yx : w4.heap.size < w7.heap.size := by omega
              have xx0 := hBx_7 0 _ rfl
              have xx1 := hBx_7 1 _ rfl
              have xx2 := hBx_7 2 _ rfl
              have xx3 := hBx_7 3 _ rfl
              have xx4 := hBx_7 4 _ rfl
              have xx5 := hBx_7 5 _ rfl
              have xx6 := hBx_7 6 _ rfl
              have xx7 := hBx_7 7 _ rfl
              have xx8 := hBx_7 8 _ rfl
              have xx9 := hBx_7 9 _ rfl
              have fx := hFx_7
              have yi : w6.heap.size < w7.heap.size := by omega
              have xi0 := hBi_7 0 _ rfl
              have xi1 := hBi_7 1 _ rfl
              have xi2 := hBi_7 2 _ rfl
              have xi3 := hBi_7 3 _ rfl
              have fi := hFi_7
              go_wp2_with fail
              go_ret
              exact ⟨rfl, Ext.hold he7⟩
            · 
              have hd := HND.out rfl
              have r := insR hd.2
              have a0 := r.a0
              have a1 := r.a1
              have HNX := hide (mDo_next HK.out H0.out (by omega) hd.2)
              rw [← hd.1] at HNX
              clear hd r
              by_cases hx0 : x.halt = 0
              · 
                have q1 : (x.halt != 0) = false := by simp [hx0]
                have HX0_ := hide hx0
                clear hx0
                by_cases ho : i.op = 13
                · 
                  have q2 : (i.op == 13) = true := by simp [ho]
                  have hal : i.a.toNat < m.regs.length := by have := HK.out.rl; omega
                  have hxp := HNX.out.go HX0_.out ho
                  have hra : m.reg i.a = m.regs[i.a.toNat] := by unfold MchMach.reg; rw [List.getElem?_eq_getElem hal]; rfl
                  obtain ⟨ba, oa, rfl, hba, hka, e0⟩ := at_Int (tm1.ext (show Ext w1 w7 from Ext.hold hb1_7)) hal
                  have z1 : i.a < (m.regs.length : Int) := by have := HK.out.rl; omega
                  have hbal : ba < w7.heap.size := hba
                  have q3 : (x.pc == m.regs[i.a.toNat]) = true := by rw [hxp, hra]; simp
                  clear hxp hra ho
                  have ym : w1.heap.size < w7.heap.size := by omega
                  have xm0 := hBm_7 0 _ rfl
                  have xm1 := hBm_7 1 _ rfl
                  have xm2 := hBm_7 2 _ rfl
                  have xm3 := hBm_7 3 _ rfl
                  have xm4 := hBm_7 4 _ rfl
                  have xm5 := hBm_7 5 _ rfl
                  have xm6 := hBm_7 6 _ rfl
                  have xm7 := hBm_7 7 _ rfl
                  have xm8 := hBm_7 8 _ rfl
                  have xm9 := hBm_7 9 _ rfl
                  have fm := hFm_7
                  have yx : w4.heap.size < w7.heap.size := by omega
                  have xx0 := hBx_7 0 _ rfl
                  have xx1 := hBx_7 1 _ rfl
                  have xx2 := hBx_7 2 _ rfl
                  have xx3 := hBx_7 3 _ rfl
                  have xx4 := hBx_7 4 _ rfl
                  have xx5 := hBx_7 5 _ rfl
                  have xx6 := hBx_7 6 _ rfl
                  have xx7 := hBx_7 7 _ rfl
                  have xx8 := hBx_7 8 _ rfl
                  have xx9 := hBx_7 9 _ rfl
                  have fx := hFx_7
                  have yi : w6.heap.size < w7.heap.size := by omega
                  have xi0 := hBi_7 0 _ rfl
                  have xi1 := hBi_7 1 _ rfl
                  have xi2 := hBi_7 2 _ rfl
                  have xi3 := hBi_7 3 _ rfl
                  have fi := hFi_7
                  go_upto_region 13 with fail
                  have hS : ∀ w', Ext w7 w' → ∀ bb oo, bb < w7.heap.size → w'.cell? ⟨bb, oo, none⟩ = w7.cell? ⟨bb, oo, none⟩ := fun w' hx bb oo hb => hx.cell hb
                  refine wp_region_plan (fun w' => Ext w7 w') 8 (.float 0 (.float 1 (.float 2 (.float 3 (.float 4 (.float 5 (.float 6 (.float 7 (.tail 8))))))))) (by kernel_rfl) (by kernel_rfl) (Ext.refl _).drew ?_
                  iterate 8 ((refine Plan.float_step (v := ?_) rfl (by rfl) (fun _ _ _ h => h) (fun w' hSw => ?_) ?_; rotate_left; · (go_simp; try with_reducible rfl)); (try simp only [Act.put, List.setIfInBounds_toArray, List.set_cons_zero, List.set_cons_succ]))
                  refine Plan.tail_step ?_
                  simp only [List.drop_succ_cons, List.drop_zero]
                  clear hS
                  go_wp2_with fail
                  go_ret
                  exact ⟨rfl, Ext.hold he7⟩
                · 
                  have q2 : (i.op == 13) = false := by simp [ho]
                  by_cases ho0 : i.op = 0
                  · 
                    have q3 : (i.op == 0) = true := by simp [ho0]
                    by_cases hk1 : i.k = 1
                    · 
                      have hbk := HNX.out.back HX0_.out ho0 hk1
                      have q4 : (i.k != 1) = false := by simp [hk1]
                      have q5 : (x.pc == m.save) = true := by simp [hbk.1]
                      have q6 : x.lets = true := hbk.2
                      clear hbk hk1 ho ho0
                      have ym : w1.heap.size < w7.heap.size := by omega
                      have xm0 := hBm_7 0 _ rfl
                      have xm1 := hBm_7 1 _ rfl
                      have xm2 := hBm_7 2 _ rfl
                      have xm3 := hBm_7 3 _ rfl
                      have xm4 := hBm_7 4 _ rfl
                      have xm5 := hBm_7 5 _ rfl
                      have xm6 := hBm_7 6 _ rfl
                      have xm7 := hBm_7 7 _ rfl
                      have xm8 := hBm_7 8 _ rfl
                      have xm9 := hBm_7 9 _ rfl
                      have fm := hFm_7
                      have yx : w4.heap.size < w7.heap.size := by omega
                      have xx0 := hBx_7 0 _ rfl
                      have xx1 := hBx_7 1 _ rfl
                      have xx2 := hBx_7 2 _ rfl
                      have xx3 := hBx_7 3 _ rfl
                      have xx4 := hBx_7 4 _ rfl
                      have xx5 := hBx_7 5 _ rfl
                      have xx6 := hBx_7 6 _ rfl
                      have xx7 := hBx_7 7 _ rfl
                      have xx8 := hBx_7 8 _ rfl
                      have xx9 := hBx_7 9 _ rfl
                      have fx := hFx_7
                      have yi : w6.heap.size < w7.heap.size := by omega
                      have xi0 := hBi_7 0 _ rfl
                      have xi1 := hBi_7 1 _ rfl
                      have xi2 := hBi_7 2 _ rfl
                      have xi3 := hBi_7 3 _ rfl
                      have fi := hFi_7
                      go_wp2_with fail
                      go_ret
                      exact ⟨rfl, Ext.hold he7⟩
                    · 
                      have q4 : (i.k != 1) = true := by simp [hk1]
                      clear hk1 ho ho0
                      have ym : w1.heap.size < w7.heap.size := by omega
                      have xm0 := hBm_7 0 _ rfl
                      have xm1 := hBm_7 1 _ rfl
                      have xm2 := hBm_7 2 _ rfl
                      have xm3 := hBm_7 3 _ rfl
                      have xm4 := hBm_7 4 _ rfl
                      have xm5 := hBm_7 5 _ rfl
                      have xm6 := hBm_7 6 _ rfl
                      have xm7 := hBm_7 7 _ rfl
                      have xm8 := hBm_7 8 _ rfl
                      have xm9 := hBm_7 9 _ rfl
                      have fm := hFm_7
                      have yx : w4.heap.size < w7.heap.size := by omega
                      have xx0 := hBx_7 0 _ rfl
                      have xx1 := hBx_7 1 _ rfl
                      have xx2 := hBx_7 2 _ rfl
                      have xx3 := hBx_7 3 _ rfl
                      have xx4 := hBx_7 4 _ rfl
                      have xx5 := hBx_7 5 _ rfl
                      have xx6 := hBx_7 6 _ rfl
                      have xx7 := hBx_7 7 _ rfl
                      have xx8 := hBx_7 8 _ rfl
                      have xx9 := hBx_7 9 _ rfl
                      have fx := hFx_7
                      have yi : w6.heap.size < w7.heap.size := by omega
                      have xi0 := hBi_7 0 _ rfl
                      have xi1 := hBi_7 1 _ rfl
                      have xi2 := hBi_7 2 _ rfl
                      have xi3 := hBi_7 3 _ rfl
                      have fi := hFi_7
                      go_wp2_with fail
                      go_ret
                      exact ⟨rfl, Ext.hold he7⟩
                  · 
                    have q3 : (i.op == 0) = false := by simp [ho0]
                    have HNE := hide (HNX.out.next HX0_.out ho ho0)
                    clear ho ho0
                    by_cases hsm : x.pc = m.pc + 1
                    · 
                      have q4 : (x.pc == m.pc + 1) = true := by simp [hsm]
                      clear hsm
                      have ym : w1.heap.size < w7.heap.size := by omega
                      have xm0 := hBm_7 0 _ rfl
                      have xm1 := hBm_7 1 _ rfl
                      have xm2 := hBm_7 2 _ rfl
                      have xm3 := hBm_7 3 _ rfl
                      have xm4 := hBm_7 4 _ rfl
                      have xm5 := hBm_7 5 _ rfl
                      have xm6 := hBm_7 6 _ rfl
                      have xm7 := hBm_7 7 _ rfl
                      have xm8 := hBm_7 8 _ rfl
                      have xm9 := hBm_7 9 _ rfl
                      have fm := hFm_7
                      have yx : w4.heap.size < w7.heap.size := by omega
                      have xx0 := hBx_7 0 _ rfl
                      have xx1 := hBx_7 1 _ rfl
                      have xx2 := hBx_7 2 _ rfl
                      have xx3 := hBx_7 3 _ rfl
                      have xx4 := hBx_7 4 _ rfl
                      have xx5 := hBx_7 5 _ rfl
                      have xx6 := hBx_7 6 _ rfl
                      have xx7 := hBx_7 7 _ rfl
                      have xx8 := hBx_7 8 _ rfl
                      have xx9 := hBx_7 9 _ rfl
                      have fx := hFx_7
                      have yi : w6.heap.size < w7.heap.size := by omega
                      have xi0 := hBi_7 0 _ rfl
                      have xi1 := hBi_7 1 _ rfl
                      have xi2 := hBi_7 2 _ rfl
                      have xi3 := hBi_7 3 _ rfl
                      have fi := hFi_7
                      go_wp2_with fail
                      go_ret
                      exact ⟨rfl, Ext.hold he7⟩
                    · 
                      have q4 : (x.pc == m.pc + 1) = false := by simp [hsm]
                      have hj : endsB i.op = true ∧ x.pc = i.k := by
                        rcases HNE.out with q | q
                        · exact absurd q hsm
                        · exact q
                      have q5 := hj.1
                      have q6 : (x.pc == i.k) = true := by simp [hj.2]
                      clear hj hsm
                      have ym : w1.heap.size < w7.heap.size := by omega
                      have xm0 := hBm_7 0 _ rfl
                      have xm1 := hBm_7 1 _ rfl
                      have xm2 := hBm_7 2 _ rfl
                      have xm3 := hBm_7 3 _ rfl
                      have xm4 := hBm_7 4 _ rfl
                      have xm5 := hBm_7 5 _ rfl
                      have xm6 := hBm_7 6 _ rfl
                      have xm7 := hBm_7 7 _ rfl
                      have xm8 := hBm_7 8 _ rfl
                      have xm9 := hBm_7 9 _ rfl
                      have fm := hFm_7
                      have yx : w4.heap.size < w7.heap.size := by omega
                      have xx0 := hBx_7 0 _ rfl
                      have xx1 := hBx_7 1 _ rfl
                      have xx2 := hBx_7 2 _ rfl
                      have xx3 := hBx_7 3 _ rfl
                      have xx4 := hBx_7 4 _ rfl
                      have xx5 := hBx_7 5 _ rfl
                      have xx6 := hBx_7 6 _ rfl
                      have xx7 := hBx_7 7 _ rfl
                      have xx8 := hBx_7 8 _ rfl
                      have xx9 := hBx_7 9 _ rfl
                      have fx := hFx_7
                      have yi : w6.heap.size < w7.heap.size := by omega
                      have xi0 := hBi_7 0 _ rfl
                      have xi1 := hBi_7 1 _ rfl
                      have xi2 := hBi_7 2 _ rfl
                      have xi3 := hBi_7 3 _ rfl
                      have fi := hFi_7
                      go_wp2_with fail
                      refine (implInsEnds_any i.op _).mono ?_
                      rintro e w' ⟨rfl, rfl⟩
                      simp only [q5]
                      go_wp2_with fail
                      go_ret
                      exact ⟨rfl, Ext.hold he7⟩
              · 
                have q1 : (x.halt != 0) = true := by simp [hx0]
                have hst := HNX.out.stop hx0
                clear hx0
                rcases hst with ⟨h3, h4⟩ | ⟨h3, h4⟩
                · 
                  have q2 : (x.halt == 3) = true := by simp [h3]
                  clear h3
                  rcases h4 with h4 | h4
                  · 
                    have q3 : (i.op == 9) = true := by simp [h4]
                    clear h4
                    have ym : w1.heap.size < w7.heap.size := by omega
                    have xm0 := hBm_7 0 _ rfl
                    have xm1 := hBm_7 1 _ rfl
                    have xm2 := hBm_7 2 _ rfl
                    have xm3 := hBm_7 3 _ rfl
                    have xm4 := hBm_7 4 _ rfl
                    have xm5 := hBm_7 5 _ rfl
                    have xm6 := hBm_7 6 _ rfl
                    have xm7 := hBm_7 7 _ rfl
                    have xm8 := hBm_7 8 _ rfl
                    have xm9 := hBm_7 9 _ rfl
                    have fm := hFm_7
                    have yx : w4.heap.size < w7.heap.size := by omega
                    have xx0 := hBx_7 0 _ rfl
                    have xx1 := hBx_7 1 _ rfl
                    have xx2 := hBx_7 2 _ rfl
                    have xx3 := hBx_7 3 _ rfl
                    have xx4 := hBx_7 4 _ rfl
                    have xx5 := hBx_7 5 _ rfl
                    have xx6 := hBx_7 6 _ rfl
                    have xx7 := hBx_7 7 _ rfl
                    have xx8 := hBx_7 8 _ rfl
                    have xx9 := hBx_7 9 _ rfl
                    have fx := hFx_7
                    have yi : w6.heap.size < w7.heap.size := by omega
                    have xi0 := hBi_7 0 _ rfl
                    have xi1 := hBi_7 1 _ rfl
                    have xi2 := hBi_7 2 _ rfl
                    have xi3 := hBi_7 3 _ rfl
                    have fi := hFi_7
                    go_wp2_with fail
                    go_ret
                    exact ⟨rfl, Ext.hold he7⟩
                  · 
                    have q3 : (i.op == 9) = false := by simp [h4]
                    have q4 : (i.op == 10) = true := by simp [h4]
                    clear h4
                    have ym : w1.heap.size < w7.heap.size := by omega
                    have xm0 := hBm_7 0 _ rfl
                    have xm1 := hBm_7 1 _ rfl
                    have xm2 := hBm_7 2 _ rfl
                    have xm3 := hBm_7 3 _ rfl
                    have xm4 := hBm_7 4 _ rfl
                    have xm5 := hBm_7 5 _ rfl
                    have xm6 := hBm_7 6 _ rfl
                    have xm7 := hBm_7 7 _ rfl
                    have xm8 := hBm_7 8 _ rfl
                    have xm9 := hBm_7 9 _ rfl
                    have fm := hFm_7
                    have yx : w4.heap.size < w7.heap.size := by omega
                    have xx0 := hBx_7 0 _ rfl
                    have xx1 := hBx_7 1 _ rfl
                    have xx2 := hBx_7 2 _ rfl
                    have xx3 := hBx_7 3 _ rfl
                    have xx4 := hBx_7 4 _ rfl
                    have xx5 := hBx_7 5 _ rfl
                    have xx6 := hBx_7 6 _ rfl
                    have xx7 := hBx_7 7 _ rfl
                    have xx8 := hBx_7 8 _ rfl
                    have xx9 := hBx_7 9 _ rfl
                    have fx := hFx_7
                    have yi : w6.heap.size < w7.heap.size := by omega
                    have xi0 := hBi_7 0 _ rfl
                    have xi1 := hBi_7 1 _ rfl
                    have xi2 := hBi_7 2 _ rfl
                    have xi3 := hBi_7 3 _ rfl
                    have fi := hFi_7
                    go_wp2_with fail
                    go_ret
                    exact ⟨rfl, Ext.hold he7⟩
                · 
                  have q2 : (x.halt == 3) = false := by simp [h3]
                  have q3 : (x.halt == 1) = true := by simp [h3]
                  clear h3 HNX HND HNN
                  subst h4
                  have ym : w1.heap.size < w7.heap.size := by omega
                  have xm0 := hBm_7 0 _ rfl
                  have xm1 := hBm_7 1 _ rfl
                  have xm2 := hBm_7 2 _ rfl
                  have xm3 := hBm_7 3 _ rfl
                  have xm4 := hBm_7 4 _ rfl
                  have xm5 := hBm_7 5 _ rfl
                  have xm6 := hBm_7 6 _ rfl
                  have xm7 := hBm_7 7 _ rfl
                  have xm8 := hBm_7 8 _ rfl
                  have xm9 := hBm_7 9 _ rfl
                  have fm := hFm_7
                  have yx : w4.heap.size < w7.heap.size := by omega
                  have xx0 := hBx_7 0 _ rfl
                  have xx1 := hBx_7 1 _ rfl
                  have xx2 := hBx_7 2 _ rfl
                  have xx3 := hBx_7 3 _ rfl
                  have xx4 := hBx_7 4 _ rfl
                  have xx5 := hBx_7 5 _ rfl
                  have xx6 := hBx_7 6 _ rfl
                  have xx7 := hBx_7 7 _ rfl
                  have xx8 := hBx_7 8 _ rfl
                  have xx9 := hBx_7 9 _ rfl
                  have fx := hFx_7
                  have yi : w6.heap.size < w7.heap.size := by omega
                  have xi0 := hBi_7 0 _ rfl
                  have xi1 := hBi_7 1 _ rfl
                  have xi2 := hBi_7 2 _ rfl
                  have xi3 := hBi_7 3 _ rfl
                  have fi := hFi_7
                  go_wp2_with fail
                  go_ret
                  exact ⟨rfl, Ext.hold he7⟩
      · 
        have q1 : (m.halt != 0) = true := by simp [h0]
        clear h0
        have ym : w1.heap.size < w3.heap.size := by omega
        have xm0 := hBm_3 0 _ rfl
        have xm1 := hBm_3 1 _ rfl
        have xm2 := hBm_3 2 _ rfl
        have xm3 := hBm_3 3 _ rfl
        have xm4 := hBm_3 4 _ rfl
        have xm5 := hBm_3 5 _ rfl
        have xm6 := hBm_3 6 _ rfl
        have xm7 := hBm_3 7 _ rfl
        have xm8 := hBm_3 8 _ rfl
        have xm9 := hBm_3 9 _ rfl
        have fm := hFm_3
        go_wp2_with (go_at_call 30; refine (laOk_any _).mono ?_; rintro e w' ⟨rfl, rfl⟩)
        go_ret
        exact ⟨rfl, Ext.hold he3⟩

end Go.Proofs.YtabldlhigjhkeaaDoor
