/-
  The law FnMchLate returns true for every input.
-/
import Derived.Test.YtabldlhigjhkeaaDoorLawRun
import Derived.Test.YtabldlhigjhkeaaDoorLaMach
import Derived.Test.YtabldlhigjhkeaaDoorLawPure
import Derived.Test.YtabldlhigjhkeaaDoorRegLib
import Derived.Deep.DeepCutAuto
namespace Go.Proofs.YtabldlhigjhkeaaDoor
open Go.RowKit

set_option linter.unusedVariables false
set_option linter.unusedSimpArgs false
set_option maxRecDepth 100000

set_option maxHeartbeats 64000000 in
theorem lawMchLate_any (code : List UInt8) (v : Value) (w : World) (h : Sl w (Old w) v code) (lf : Nat) (hF : Forms lf w) : Calls Tryd.prog 13 #[v] w fun e w' => e = .returned (.bool true) ∧ Ext w w' := by
  obtain ⟨Ac, cc, rfl, -, -⟩ := h.form
  by_cases hbig : 1048576 < code.length
  · have q1 : decide (1048576 < (code.length : Int)) = true := decide_eq_true (by omega)
    go_enter Tryd.func13, Tryd.ntmps13
    go_wp2
    go_ret
    exact ⟨rfl, Ext.refl _⟩
  have q1 : decide (1048576 < (code.length : Int)) = false := decide_eq_false (by omega)
  go_enter Tryd.func13, Tryd.ntmps13
  go_wp2_with fail
  refine (drawMchRun_any code _ _ h).mono ?_
  intro e w1 hd
  unfold DRun at hd
  obtain ⟨m, A1m, A2m, A3m, A4m, A5, c1m, c2m, c3m, c4m, c5, irqs, n, rfl, ⟨hl1, hl2, hl3, hl4⟩, ⟨hli, hiw, hn0, hn1⟩, tm1, tm2, tm3, tm4, ti, he1⟩ := hd
  have hs1 := he1.size
  have hb1_1 : Ext w1 w1 := Ext.refl _
  have HIW := hide True.intro
  clear q1 hbig
  have HW := hide hiw
  clear hiw
  go_upto_region 4 with fail
  have he2 : Ext w (w1.alloc (Obj.cells #[(.slice A1m m.regs.length c1m), .int .i64 m.pc, (.slice A2m m.mem.length c2m), .int .i64 m.save, .bool m.lets, .bool m.waits, .int .i64 m.halt, (.slice A3m m.ins.length c3m), (.slice A4m m.outs.length c4m), .int .i64 m.count] 26)) := Ext.hold he1
  have hs2 : w1.heap.size + 1 ≤ ((w1.alloc (Obj.cells #[(.slice A1m m.regs.length c1m), .int .i64 m.pc, (.slice A2m m.mem.length c2m), .int .i64 m.save, .bool m.lets, .bool m.waits, .int .i64 m.halt, (.slice A3m m.ins.length c3m), (.slice A4m m.outs.length c4m), .int .i64 m.count] 26))).heap.size := by simp
  have hb1_2 : Ext w1 (w1.alloc (Obj.cells #[(.slice A1m m.regs.length c1m), .int .i64 m.pc, (.slice A2m m.mem.length c2m), .int .i64 m.save, .bool m.lets, .bool m.waits, .int .i64 m.halt, (.slice A3m m.ins.length c3m), (.slice A4m m.outs.length c4m), .int .i64 m.count] 26)) := Ext.hold hb1_1
  have hBm_2 : Bx (w1.alloc (Obj.cells #[(.slice A1m m.regs.length c1m), .int .i64 m.pc, (.slice A2m m.mem.length c2m), .int .i64 m.save, .bool m.lets, .bool m.waits, .int .i64 m.halt, (.slice A3m m.ins.length c3m), (.slice A4m m.outs.length c4m), .int .i64 m.count] 26)) (w1.heap.size) [(.slice A1m m.regs.length c1m), .int .i64 m.pc, (.slice A2m m.mem.length c2m), .int .i64 m.save, .bool m.lets, .bool m.waits, .int .i64 m.halt, (.slice A3m m.ins.length c3m), (.slice A4m m.outs.length c4m), .int .i64 m.count] := Bx.new w1 #[(.slice A1m m.regs.length c1m), .int .i64 m.pc, (.slice A2m m.mem.length c2m), .int .i64 m.save, .bool m.lets, .bool m.waits, .int .i64 m.halt, (.slice A3m m.ins.length c3m), (.slice A4m m.outs.length c4m), .int .i64 m.count] 26
  have hFm_2 : ∀ oo, (w1.alloc (Obj.cells #[(.slice A1m m.regs.length c1m), .int .i64 m.pc, (.slice A2m m.mem.length c2m), .int .i64 m.save, .bool m.lets, .bool m.waits, .int .i64 m.halt, (.slice A3m m.ins.length c3m), (.slice A4m m.outs.length c4m), .int .i64 m.count] 26)).frozen? ⟨w1.heap.size, oo, none⟩ = false := fz_new w1 #[(.slice A1m m.regs.length c1m), .int .i64 m.pc, (.slice A2m m.mem.length c2m), .int .i64 m.save, .bool m.lets, .bool m.waits, .int .i64 m.halt, (.slice A3m m.ins.length c3m), (.slice A4m m.outs.length c4m), .int .i64 m.count] 26 rfl
  generalize (w1.alloc (Obj.cells #[(.slice A1m m.regs.length c1m), .int .i64 m.pc, (.slice A2m m.mem.length c2m), .int .i64 m.save, .bool m.lets, .bool m.waits, .int .i64 m.halt, (.slice A3m m.ins.length c3m), (.slice A4m m.outs.length c4m), .int .i64 m.count] 26)) = w2 at *
  clear hb1_1
  obtain ⟨i0, hi, hz0, hz1, hz2⟩ := info_parts infInt
  have HI := hide hi
  have HZ0 := hide hz0
  have HZ1 := hide hz1
  have HZ2 := hide hz2
  clear hi hz0 hz1 hz2
  obtain ⟨i1, hi, hz0, hz1, hz2⟩ := info_parts infInsIns
  have JI := hide hi
  have JZ0 := hide hz0
  have JZ1 := hide hz1
  have JZ2 := hide hz2
  clear hi hz0 hz1 hz2
  cases q0 : mchOkB m
  · 
    have ym : w1.heap.size < w2.heap.size := by omega
    have xm0 := hBm_2 0 _ rfl
    have xm1 := hBm_2 1 _ rfl
    have xm2 := hBm_2 2 _ rfl
    have xm3 := hBm_2 3 _ rfl
    have xm4 := hBm_2 4 _ rfl
    have xm5 := hBm_2 5 _ rfl
    have xm6 := hBm_2 6 _ rfl
    have xm7 := hBm_2 7 _ rfl
    have xm8 := hBm_2 8 _ rfl
    have xm9 := hBm_2 9 _ rfl
    have fm := hFm_2
    go_wp2_with fail
    refine (specMchOk_any m _ _ _ _ _ (tm1.ext (Ext.hold hb1_2)) (tm2.ext (Ext.hold hb1_2)) (tm3.ext (Ext.hold hb1_2)) (tm4.ext (Ext.hold hb1_2))).mono ?_
    rintro e w3 ⟨rfl, hy⟩
    simp only [q0]
    clear xm0 xm1 xm2 xm3 xm4 xm5 xm6 xm7 xm8 xm9 ym
    clear fm
    have hb1_3 : Ext w1 w3 := Ext.trans (Ext.hold hb1_2) hy
    have hs3 := hy.size
    try simp at hs3
    have he3 : Ext w w3 := Ext.trans (Ext.hold he2) hy
    have hBm_3 : Bx w3 (w1.heap.size) [(.slice A1m m.regs.length c1m), .int .i64 m.pc, (.slice A2m m.mem.length c2m), .int .i64 m.save, .bool m.lets, .bool m.waits, .int .i64 m.halt, (.slice A3m m.ins.length c3m), (.slice A4m m.outs.length c4m), .int .i64 m.count] := hy.bx (Bx.hold hBm_2) (by first | omega | (simp; done) | (simp; omega))
    have hFm_3 : ∀ oo, w3.frozen? ⟨w1.heap.size, oo, none⟩ = false := fun oo => (hy.frozen (by first | omega | (simp; done) | (simp; omega))).trans ((fz_hold hFm_2) oo)
    try clear hBm_2 hFm_2
    clear hy hb1_2
    have ym : w1.heap.size < w3.heap.size := by omega
    have xm0 := hBm_3 0 _ rfl
    have xm1 := hBm_3 1 _ rfl
    have xm2 := hBm_3 2 _ rfl
    have xm3 := hBm_3 3 _ rfl
    have xm4 := hBm_3 4 _ rfl
    have xm5 := hBm_3 5 _ rfl
    have xm6 := hBm_3 6 _ rfl
    have xm7 := hBm_3 7 _ rfl
    have xm8 := hBm_3 8 _ rfl
    have xm9 := hBm_3 9 _ rfl
    have fm := hFm_3
    go_wp2_with (go_at_call 30; refine (laOk_any _).mono ?_; rintro e w' ⟨rfl, rfl⟩)
    go_ret
    exact ⟨rfl, Ext.hold he3⟩
  · 
    have ym : w1.heap.size < w2.heap.size := by omega
    have xm0 := hBm_2 0 _ rfl
    have xm1 := hBm_2 1 _ rfl
    have xm2 := hBm_2 2 _ rfl
    have xm3 := hBm_2 3 _ rfl
    have xm4 := hBm_2 4 _ rfl
    have xm5 := hBm_2 5 _ rfl
    have xm6 := hBm_2 6 _ rfl
    have xm7 := hBm_2 7 _ rfl
    have xm8 := hBm_2 8 _ rfl
    have xm9 := hBm_2 9 _ rfl
    have fm := hFm_2
    go_wp2_with fail
    refine (specMchOk_any m _ _ _ _ _ (tm1.ext (Ext.hold hb1_2)) (tm2.ext (Ext.hold hb1_2)) (tm3.ext (Ext.hold hb1_2)) (tm4.ext (Ext.hold hb1_2))).mono ?_
    rintro e w3 ⟨rfl, hy⟩
    simp only [q0]
    clear xm0 xm1 xm2 xm3 xm4 xm5 xm6 xm7 xm8 xm9 ym
    clear fm
    have hb1_3 : Ext w1 w3 := Ext.trans (Ext.hold hb1_2) hy
    have hs3 := hy.size
    try simp at hs3
    have he3 : Ext w w3 := Ext.trans (Ext.hold he2) hy
    have hBm_3 : Bx w3 (w1.heap.size) [(.slice A1m m.regs.length c1m), .int .i64 m.pc, (.slice A2m m.mem.length c2m), .int .i64 m.save, .bool m.lets, .bool m.waits, .int .i64 m.halt, (.slice A3m m.ins.length c3m), (.slice A4m m.outs.length c4m), .int .i64 m.count] := hy.bx (Bx.hold hBm_2) (by first | omega | (simp; done) | (simp; omega))
    have hFm_3 : ∀ oo, w3.frozen? ⟨w1.heap.size, oo, none⟩ = false := fun oo => (hy.frozen (by first | omega | (simp; done) | (simp; omega))).trans ((fz_hold hFm_2) oo)
    try clear hBm_2 hFm_2
    clear hy hb1_2
    have hk := mOk_iff.1 q0
    have hc0 := hk.c0
    have hc1 := hk.c1
    clear hk
    have HQ := hide q0
    by_cases hn : 400 < n
    · 
      have q1 : decide (400 < n) = true := decide_eq_true hn
      have ym : w1.heap.size < w3.heap.size := by omega
      have xm0 := hBm_3 0 _ rfl
      have xm1 := hBm_3 1 _ rfl
      have xm2 := hBm_3 2 _ rfl
      have xm3 := hBm_3 3 _ rfl
      have xm4 := hBm_3 4 _ rfl
      have xm5 := hBm_3 5 _ rfl
      have xm6 := hBm_3 6 _ rfl
      have xm7 := hBm_3 7 _ rfl
      have xm8 := hBm_3 8 _ rfl
      have xm9 := hBm_3 9 _ rfl
      have fm := hFm_3
      go_wp2_with (go_at_call 30; refine (laOk_any _).mono ?_; rintro e w' ⟨rfl, rfl⟩)
      go_ret
      exact ⟨rfl, Ext.hold he3⟩
    · 
      have q1 : decide (400 < n) = false := decide_eq_false hn
      by_cases hz : n < 0
      · 
        have q2 : decide (n < 0) = true := decide_eq_true hz
        have ym : w1.heap.size < w3.heap.size := by omega
        have xm0 := hBm_3 0 _ rfl
        have xm1 := hBm_3 1 _ rfl
        have xm2 := hBm_3 2 _ rfl
        have xm3 := hBm_3 3 _ rfl
        have xm4 := hBm_3 4 _ rfl
        have xm5 := hBm_3 5 _ rfl
        have xm6 := hBm_3 6 _ rfl
        have xm7 := hBm_3 7 _ rfl
        have xm8 := hBm_3 8 _ rfl
        have xm9 := hBm_3 9 _ rfl
        have fm := hFm_3
        go_wp2_with (go_at_call 30; refine (laOk_any _).mono ?_; rintro e w' ⟨rfl, rfl⟩)
        go_ret
        exact ⟨rfl, Ext.hold he3⟩
      · 
        have q2 : decide (n < 0) = false := decide_eq_false hz
        have hn4 : n ≤ 400 := by omega
        have hn00 : 0 ≤ n := by omega
        have ym : w1.heap.size < w3.heap.size := by omega
        have xm0 := hBm_3 0 _ rfl
        have xm1 := hBm_3 1 _ rfl
        have xm2 := hBm_3 2 _ rfl
        have xm3 := hBm_3 3 _ rfl
        have xm4 := hBm_3 4 _ rfl
        have xm5 := hBm_3 5 _ rfl
        have xm6 := hBm_3 6 _ rfl
        have xm7 := hBm_3 7 _ rfl
        have xm8 := hBm_3 8 _ rfl
        have xm9 := hBm_3 9 _ rfl
        have fm := hFm_3
        go_upto_region 6 with fail
        clear xm0 xm1 xm2 xm3 xm4 xm5 xm6 xm7 xm8 xm9 ym
        clear fm
        clear q1 q2 hn hz
        go_cut [6] (fun v6_ wx => ∃ (A_ : Option Addr) (c_ : Nat), v6_ = .slice A_ (irqs.length + 2) c_ ∧ Sl wx (Old wx) (.slice A_ (irqs.length + 2) c_) (irqs ++ [m.count + n, m.count - 1]) ∧ Ext w wx ∧ Ext w1 wx ∧ w3.heap.size ≤ wx.heap.size ∧ Bx wx (w1.heap.size) [(.slice A1m m.regs.length c1m), .int .i64 m.pc, (.slice A2m m.mem.length c2m), .int .i64 m.save, .bool m.lets, .bool m.waits, .int .i64 m.halt, (.slice A3m m.ins.length c3m), (.slice A4m m.outs.length c4m), .int .i64 m.count] ∧ (∀ oo, wx.frozen? ⟨w1.heap.size, oo, none⟩ = false))
        case first =>
          have W1 : IntKind.i64.wrap (m.count + n) = m.count + n := by rw [IntKind.wrap_i64]; omega
          have W2 : IntKind.i64.wrap (m.count - 1) = m.count - 1 := by rw [IntKind.wrap_i64]; omega
          have hf1 : Fits (m.count + n) := by unfold Fits; omega
          have hf2 : Fits (m.count - 1) := by unfold Fits; omega
          have ym : w1.heap.size < w3.heap.size := by omega
          have xm0 := hBm_3 0 _ rfl
          have xm1 := hBm_3 1 _ rfl
          have xm2 := hBm_3 2 _ rfl
          have xm3 := hBm_3 3 _ rfl
          have xm4 := hBm_3 4 _ rfl
          have xm5 := hBm_3 5 _ rfl
          have xm6 := hBm_3 6 _ rfl
          have xm7 := hBm_3 7 _ rfl
          have xm8 := hBm_3 8 _ rfl
          have xm9 := hBm_3 9 _ rfl
          have fm := hFm_3
          have hS : ∀ w', Ext w3 w' → ∀ bb oo, bb < w3.heap.size → w'.cell? ⟨bb, oo, none⟩ = w3.cell? ⟨bb, oo, none⟩ := fun w' hx bb oo hb => hx.cell hb
          refine wp_region_plan (fun w' => Ext w3 w') 11 (.float 1 (.float 3 (.float 4 (.float 5 (.float 6 (.float 7 (.float 8 (.float 9 (.fork 0 10 (.fork 2 10 (.chain 10 (.tail 11)) (.chain 2 (.tail 11))) (.chain 0 (.chain 2 (.tail 11)))))))))))) (by kernel_rfl) (by kernel_rfl) (Ext.refl _).drew ?_
          iterate 8 ((refine Plan.float_step (v := ?_) rfl (by rfl) (fun _ _ _ h => h) (fun w' hSw => ?_) ?_; rotate_left; · (go_simp; try with_reducible rfl)); (try simp only [Act.put, List.setIfInBounds_toArray, List.set_cons_zero, List.set_cons_succ]))
          clear W1 W2
          refine Plan.fork_step ?_ ?_
          · 
            refine Plan.chain_step rfl (fun K hK => ?_)
            go_simp
            refine hK.out _ _ Ext.auto ?_
            clear hK
            (try simp only [Act.put, List.setIfInBounds_toArray, List.set_cons_zero, List.set_cons_succ])
            refine Plan.fork_step ?_ ?_
            · 
              refine Plan.chain_step rfl (fun K hK => ?_)
              refine wp_append_flat3 (α := Int) (w0 := w3) _ _ 22 rfl i0 _ 8 Tryd.underlying22 HI.out HZ0.out HZ1.out HZ2.out rfl ((App.emptyAt w3 3 _ rfl).call (Ext.refl _).drew) rfl _ irqs _ rfl (ti.ext (Ext.hold hb1_3)) (by unfold maxLen; simp; omega) (by simp; omega) ?_
              intro v' w9 Fs' xs' hA9 hg9 hb9
              have hE9 : Ext w3 w9 := Ext.trans Ext.auto hA9.ext
              refine hK.out _ _ hE9 ?_
              clear hK
              (try simp only [Act.put, List.setIfInBounds_toArray, List.set_cons_zero, List.set_cons_succ])
              refine Plan.chain_step rfl (fun K hK => ?_)
              go_simp
              refine hK.out _ _ (Ext.trans hE9 Ext.auto) ?_
              clear hK
              (try simp only [Act.put, List.setIfInBounds_toArray, List.set_cons_zero, List.set_cons_succ])
              refine Plan.tail_step ?_
              simp only [List.drop_succ_cons, List.drop_zero]
              clear hS
              clear xm0 xm1 xm2 xm3 xm4 xm5 xm6 xm7 xm8 xm9 ym
              clear fm
              have hll : ([] ++ irqs ++ ([m.count + n, m.count - 1] : List Int)).length = irqs.length + 2 := by simp
              have hS2 := ((Sl.lit w9 [m.count + n, m.count - 1] 3 2 rfl (by intro z hz; simp at hz; rcases hz with rfl | rfl <;> assumption) (by simp) _ rfl).keep (S' := Old (w9.alloc (.cells #[.int .i64 (m.count + n), .int .i64 (m.count - 1)] 3))) (fun _ _ _ => rfl) (fun b hb => by subst hb; show _ < _; simp))
              go_wp2_with (at_builtin; go_must (refine wpList_append_flat2 (α := Int) (w0 := w3) rfl _ _ 22 rfl i0 _ 8 Tryd.underlying22 HI.out HZ0.out HZ1.out HZ2.out rfl (hA9.call ((Ext.refl w9).alloc (.cells #[.int .i64 (m.count + n), .int .i64 (m.count - 1)] 3))) rfl _ [m.count + n, m.count - 1] _ rfl hS2 (by unfold maxLen; simp; omega) (by simp; omega) ?_); intro v2 w10 Fs2 xs2 hA10 hg10 hb10; obtain ⟨F10, hO10, hF10⟩ := hA10.done; have hSl := hO10.old hF10; have hE10 : Ext w3 w10 := Ext.trans (by (first | exact Ext.auto | exact Ext.refl _)) hA10.ext; clear hA10 hg10 hb10; obtain ⟨A10, c10, rfl, -, -⟩ := hO10.sl.form; rw [hll] at hSl; simp only [hll])
              go_meet
              exact ⟨A10, c10, rfl, by simpa using hSl, he3.trans hE10, hb1_3.trans hE10, hE10.size, hE10.bx hBm_3 (by omega), fun oo => (hE10.frozen (by omega)).trans (hFm_3 oo)⟩
            · 
              refine Plan.chain_step rfl (fun K hK => ?_)
              go_simp
              refine hK.out _ _ Ext.auto ?_
              clear hK
              (try simp only [Act.put, List.setIfInBounds_toArray, List.set_cons_zero, List.set_cons_succ])
              refine Plan.chain_step rfl (fun K hK => ?_)
              refine wp_append_flat3 (α := Int) (w0 := w3) _ _ 22 rfl i0 _ 8 Tryd.underlying22 HI.out HZ0.out HZ1.out HZ2.out rfl (((App.emptyAt w3 3 _ rfl).call ((Ext.refl _).alloc (.cells #[.int .i64 (m.count + n), .int .i64 (m.count - 1)] 3))).call (Ext.refl _).drew) rfl _ irqs _ rfl (ti.ext (Ext.hold hb1_3)) (by unfold maxLen; simp; omega) (by simp; omega) ?_
              intro v' w9 Fs' xs' hA9 hg9 hb9
              have hE9 : Ext w3 w9 := Ext.trans Ext.auto hA9.ext
              refine hK.out _ _ hE9 ?_
              clear hK
              (try simp only [Act.put, List.setIfInBounds_toArray, List.set_cons_zero, List.set_cons_succ])
              refine Plan.tail_step ?_
              simp only [List.drop_succ_cons, List.drop_zero]
              clear hS
              clear xm0 xm1 xm2 xm3 xm4 xm5 xm6 xm7 xm8 xm9 ym
              clear fm
              have hll : ([] ++ irqs ++ ([m.count + n, m.count - 1] : List Int)).length = irqs.length + 2 := by simp
              have hS2 := ((Sl.lit (w3.alloc (.cells #[] 3)) [m.count + n, m.count - 1] 3 2 rfl (by intro z hz; simp at hz; rcases hz with rfl | rfl <;> assumption) (by simp) _ rfl).turn (Turn.of_grown (a := ((w3.alloc (.cells #[] 3)).alloc (.cells #[.int .i64 (m.count + n), .int .i64 (m.count - 1)] 3))) Ext.auto hg9) (fun x hx => by subst hx; simp [Value.ownBlock]))
              rw [show (w3.alloc (.cells #[] 3)).heap.size = w3.heap.size + 1 by simp] at hS2
              go_wp2_with (at_builtin; go_must (refine wpList_append_flat2 (α := Int) (w0 := w3) rfl _ _ 22 rfl i0 _ 8 Tryd.underlying22 HI.out HZ0.out HZ1.out HZ2.out rfl (hA9) rfl _ [m.count + n, m.count - 1] _ rfl hS2 (by unfold maxLen; simp; omega) (by simp; omega) ?_); intro v2 w10 Fs2 xs2 hA10 hg10 hb10; obtain ⟨F10, hO10, hF10⟩ := hA10.done; have hSl := hO10.old hF10; have hE10 : Ext w3 w10 := Ext.trans (by (first | exact Ext.auto | exact Ext.refl _)) hA10.ext; clear hA10 hg10 hb10; obtain ⟨A10, c10, rfl, -, -⟩ := hO10.sl.form; rw [hll] at hSl; simp only [hll])
              go_meet
              exact ⟨A10, c10, rfl, by simpa using hSl, he3.trans hE10, hb1_3.trans hE10, hE10.size, hE10.bx hBm_3 (by omega), fun oo => (hE10.frozen (by omega)).trans (hFm_3 oo)⟩
          · 
            refine Plan.chain_step rfl (fun K hK => ?_)
            go_simp
            refine hK.out _ _ Ext.auto ?_
            clear hK
            (try simp only [Act.put, List.setIfInBounds_toArray, List.set_cons_zero, List.set_cons_succ])
            refine Plan.chain_step rfl (fun K hK => ?_)
            go_simp
            refine hK.out _ _ Ext.auto ?_
            clear hK
            (try simp only [Act.put, List.setIfInBounds_toArray, List.set_cons_zero, List.set_cons_succ])
            refine Plan.chain_step rfl (fun K hK => ?_)
            refine wp_append_flat3 (α := Int) (w0 := (w3.alloc (.cells #[.int .i64 (m.count + n), .int .i64 (m.count - 1)] 3))) _ _ 22 rfl i0 _ 8 Tryd.underlying22 HI.out HZ0.out HZ1.out HZ2.out rfl ((App.emptyAt (w3.alloc (.cells #[.int .i64 (m.count + n), .int .i64 (m.count - 1)] 3)) 3 _ (by first | rfl | simp)).call (Ext.refl _).drew) rfl _ irqs _ rfl (ti.ext (Ext.hold hb1_3)) (by unfold maxLen; simp; omega) (by simp; omega) ?_
            intro v' w9 Fs' xs' hA9 hg9 hb9
            have hE9 : Ext w3 w9 := Ext.trans Ext.auto hA9.ext
            refine hK.out _ _ hE9 ?_
            clear hK
            (try simp only [Act.put, List.setIfInBounds_toArray, List.set_cons_zero, List.set_cons_succ])
            refine Plan.tail_step ?_
            simp only [List.drop_succ_cons, List.drop_zero]
            clear hS
            clear xm0 xm1 xm2 xm3 xm4 xm5 xm6 xm7 xm8 xm9 ym
            clear fm
            have hll : ([] ++ irqs ++ ([m.count + n, m.count - 1] : List Int)).length = irqs.length + 2 := by simp
            have hS2 := ((Sl.lit w3 [m.count + n, m.count - 1] 3 2 rfl (by intro z hz; simp at hz; rcases hz with rfl | rfl <;> assumption) (by simp) _ rfl).turn (Turn.of_grown (a := (w3.alloc (.cells #[.int .i64 (m.count + n), .int .i64 (m.count - 1)] 3))) Ext.auto hg9) (fun x hx => by subst hx; simp [Value.ownBlock]))
            go_wp2_with (at_builtin; go_must (refine wpList_append_flat2 (α := Int) (w0 := (w3.alloc (.cells #[.int .i64 (m.count + n), .int .i64 (m.count - 1)] 3))) rfl _ _ 22 rfl i0 _ 8 Tryd.underlying22 HI.out HZ0.out HZ1.out HZ2.out rfl (hA9) rfl _ [m.count + n, m.count - 1] _ rfl hS2 (by unfold maxLen; simp; omega) (by simp; omega) ?_); intro v2 w10 Fs2 xs2 hA10 hg10 hb10; obtain ⟨F10, hO10, hF10⟩ := hA10.done; have hSl := hO10.old hF10; have hE10 : Ext w3 w10 := Ext.trans (by (first | exact Ext.auto | exact Ext.refl _)) hA10.ext; clear hA10 hg10 hb10; obtain ⟨A10, c10, rfl, -, -⟩ := hO10.sl.form; rw [hll] at hSl; simp only [hll])
            go_meet
            exact ⟨A10, c10, rfl, by simpa using hSl, he3.trans hE10, hb1_3.trans hE10, hE10.size, hE10.bx hBm_3 (by omega), fun oo => (hE10.frozen (by omega)).trans (hFm_3 oo)⟩
        case rest =>
          obtain ⟨A6, c6, rfl, tmo, he4, hb1_4, hs4, hBm_4, hFm_4⟩ := hcut
          obtain ⟨w4, hwc⟩ : ∃ w4 : World, w4 = wc := ⟨_, rfl⟩
          subst hwc
          clear hBm_3 hFm_3 hb1_3
          have hb4_4 : Ext w4 w4 := Ext.refl _
          have HLT := hide (mRun_late (irqs := irqs) HQ.out hn00 hn4)
          obtain ⟨x, hgx⟩ : ∃ x, mRun m irqs n = x := ⟨_, rfl⟩
          rw [hgx] at HLT
          have HX := hide hgx
          clear hgx
          have HLT2 := hide HLT.out.symm
          have qxx : decide (x = x) = true := decide_eq_true rfl
          have ym : w1.heap.size < w4.heap.size := by omega
          have xm0 := hBm_4 0 _ rfl
          have xm1 := hBm_4 1 _ rfl
          have xm2 := hBm_4 2 _ rfl
          have xm3 := hBm_4 3 _ rfl
          have xm4 := hBm_4 4 _ rfl
          have xm5 := hBm_4 5 _ rfl
          have xm6 := hBm_4 6 _ rfl
          have xm7 := hBm_4 7 _ rfl
          have xm8 := hBm_4 8 _ rfl
          have xm9 := hBm_4 9 _ rfl
          have fm := hFm_4
          go_upto_region 7 with fail
          have hS : ∀ w', Ext w4 w' → ∀ bb oo, bb < w4.heap.size → w'.cell? ⟨bb, oo, none⟩ = w4.cell? ⟨bb, oo, none⟩ := fun w' hx bb oo hb => hx.cell hb
          refine wp_region_plan (fun w' => Ext w4 w') 7 (.float 0 (.float 1 (.float 2 (.float 4 (.float 5 (.float 6 (.chain 3 (.tail 7)))))))) (by kernel_rfl) (by kernel_rfl) (Ext.refl _).drew ?_
          iterate 6 ((refine Plan.float_step (v := ?_) rfl (by rfl) (fun _ _ _ h => h) (fun w' hSw => ?_) ?_; rotate_left; · (go_simp; try with_reducible rfl)); (try simp only [Act.put, List.setIfInBounds_toArray, List.set_cons_zero, List.set_cons_succ]))
          refine Plan.chain_step rfl (fun K hK => ?_)
          go_simp
          refine (implRun_r m irqs n _ _ _ _ _ _ (tm1.ext (Ext.hold hb1_4)) (tm2.ext (Ext.hold hb1_4)) (tm3.ext (Ext.hold hb1_4)) (tm4.ext (Ext.hold hb1_4)) (ti.ext (Ext.hold hb1_4)) (by omega) (by omega) (by omega) (by omega) (by omega) lf (hF.ext (Ext.hold he4))).mono ?_
          intro e w5 hr
          rw [HX.out] at hr
          unfold MRet at hr
          obtain ⟨A1y, A2y, A3y, A4y, c1y, c2y, c3y, c4y, rfl, ty1, ty2, ty3, ty4, hy⟩ := hr
          refine hK.out _ _ (Ext.trans Ext.auto hy) ?_
          clear hK
          (try simp only [Act.put, List.setIfInBounds_toArray, List.set_cons_zero, List.set_cons_succ])
          have hb1_5 : Ext w1 w5 := Ext.trans (Ext.hold hb1_4) hy
          have hb4_5 : Ext w4 w5 := Ext.trans (Ext.hold hb4_4) hy
          have hs5 := hy.size
          try simp at hs5
          have he5 : Ext w w5 := Ext.trans (Ext.hold he4) hy
          have hBm_5 : Bx w5 (w1.heap.size) [(.slice A1m m.regs.length c1m), .int .i64 m.pc, (.slice A2m m.mem.length c2m), .int .i64 m.save, .bool m.lets, .bool m.waits, .int .i64 m.halt, (.slice A3m m.ins.length c3m), (.slice A4m m.outs.length c4m), .int .i64 m.count] := hy.bx (Bx.hold hBm_4) (by first | omega | (simp; done) | (simp; omega))
          have hFm_5 : ∀ oo, w5.frozen? ⟨w1.heap.size, oo, none⟩ = false := fun oo => (hy.frozen (by first | omega | (simp; done) | (simp; omega))).trans ((fz_hold hFm_4) oo)
          try clear hBm_4 hFm_4
          clear hy hb1_4 hb4_4
          have hb5_5 : Ext w5 w5 := Ext.refl _
          refine Plan.tail_step ?_
          simp only [List.drop_succ_cons, List.drop_zero]
          clear hS
          clear xm0 xm1 xm2 xm3 xm4 xm5 xm6 xm7 xm8 xm9 ym
          clear fm
          have ym : w1.heap.size < w5.heap.size := by omega
          have xm0 := hBm_5 0 _ rfl
          have xm1 := hBm_5 1 _ rfl
          have xm2 := hBm_5 2 _ rfl
          have xm3 := hBm_5 3 _ rfl
          have xm4 := hBm_5 4 _ rfl
          have xm5 := hBm_5 5 _ rfl
          have xm6 := hBm_5 6 _ rfl
          have xm7 := hBm_5 7 _ rfl
          have xm8 := hBm_5 8 _ rfl
          have xm9 := hBm_5 9 _ rfl
          have fm := hFm_5
          go_wp2_with fail
          refine (implRun_r m (irqs ++ [m.count + n, m.count - 1]) n _ _ _ _ _ _ (tm1.ext (Ext.hold hb1_5)) (tm2.ext (Ext.hold hb1_5)) (tm3.ext (Ext.hold hb1_5)) (tm4.ext (Ext.hold hb1_5)) (tmo.ext (Ext.hold hb4_5)) (by omega) (by omega) (by omega) (by omega) (by omega) lf (hF.ext (Ext.hold he5))).mono ?_
          intro e w6 hr
          rw [HLT2.out] at hr
          unfold MRet at hr
          obtain ⟨A1z, A2z, A3z, A4z, c1z, c2z, c3z, c4z, rfl, tz1, tz2, tz3, tz4, hy⟩ := hr
          clear xm0 xm1 xm2 xm3 xm4 xm5 xm6 xm7 xm8 xm9 ym
          clear fm
          have hb1_6 : Ext w1 w6 := Ext.trans (Ext.hold hb1_5) hy
          have hb4_6 : Ext w4 w6 := Ext.trans (Ext.hold hb4_5) hy
          have hb5_6 : Ext w5 w6 := Ext.trans (Ext.hold hb5_5) hy
          have hs6 := hy.size
          try simp at hs6
          have he6 : Ext w w6 := Ext.trans (Ext.hold he5) hy
          have hBm_6 : Bx w6 (w1.heap.size) [(.slice A1m m.regs.length c1m), .int .i64 m.pc, (.slice A2m m.mem.length c2m), .int .i64 m.save, .bool m.lets, .bool m.waits, .int .i64 m.halt, (.slice A3m m.ins.length c3m), (.slice A4m m.outs.length c4m), .int .i64 m.count] := hy.bx (Bx.hold hBm_5) (by first | omega | (simp; done) | (simp; omega))
          have hFm_6 : ∀ oo, w6.frozen? ⟨w1.heap.size, oo, none⟩ = false := fun oo => (hy.frozen (by first | omega | (simp; done) | (simp; omega))).trans ((fz_hold hFm_5) oo)
          try clear hBm_5 hFm_5
          clear hy hb1_5 hb4_5 hb5_5
          have hb6_6 : Ext w6 w6 := Ext.refl _
          go_wp2_with fail
          refine (laMach_any x x _ _ _ _ _ _ _ _ _ (ty1.ext (Ext.hold hb5_6)) (ty2.ext (Ext.hold hb5_6)) (ty3.ext (Ext.hold hb5_6)) (ty4.ext (Ext.hold hb5_6)) (tz1.ext (Ext.hold hb6_6)) (tz2.ext (Ext.hold hb6_6)) (tz3.ext (Ext.hold hb6_6)) (tz4.ext (Ext.hold hb6_6))).mono ?_
          rintro e w7 ⟨rfl, hy⟩
          simp only [qxx]
          have hb1_7 : Ext w1 w7 := Ext.trans (Ext.hold hb1_6) hy
          have hb4_7 : Ext w4 w7 := Ext.trans (Ext.hold hb4_6) hy
          have hb5_7 : Ext w5 w7 := Ext.trans (Ext.hold hb5_6) hy
          have hb6_7 : Ext w6 w7 := Ext.trans (Ext.hold hb6_6) hy
          have hs7 := hy.size
          try simp at hs7
          have he7 : Ext w w7 := Ext.trans (Ext.hold he6) hy
          have hBm_7 : Bx w7 (w1.heap.size) [(.slice A1m m.regs.length c1m), .int .i64 m.pc, (.slice A2m m.mem.length c2m), .int .i64 m.save, .bool m.lets, .bool m.waits, .int .i64 m.halt, (.slice A3m m.ins.length c3m), (.slice A4m m.outs.length c4m), .int .i64 m.count] := hy.bx (Bx.hold hBm_6) (by first | omega | (simp; done) | (simp; omega))
          have hFm_7 : ∀ oo, w7.frozen? ⟨w1.heap.size, oo, none⟩ = false := fun oo => (hy.frozen (by first | omega | (simp; done) | (simp; omega))).trans ((fz_hold hFm_6) oo)
          try clear hBm_6 hFm_6
          clear hy hb1_6 hb4_6 hb5_6 hb6_6
          have ym : w1.heap.size < w7.heap.size := by omega
          have xm0 := hBm_7 0 _ rfl
          have xm1 := hBm_7 1 _ rfl
          have xm2 := hBm_7 2 _ rfl
          have xm3 := hBm_7 3 _ rfl
          have xm4 := hBm_7 4 _ rfl
          have xm5 := hBm_7 5 _ rfl
          have xm6 := hBm_7 6 _ rfl
          have xm7 := hBm_7 7 _ rfl
          have xm8 := hBm_7 8 _ rfl
          have xm9 := hBm_7 9 _ rfl
          have fm := hFm_7
          go_wp2_with fail
          go_ret
          exact ⟨rfl, Ext.hold he7⟩

end Go.Proofs.YtabldlhigjhkeaaDoor
