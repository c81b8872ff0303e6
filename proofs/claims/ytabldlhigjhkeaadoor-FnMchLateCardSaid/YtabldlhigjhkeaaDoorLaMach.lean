/-
  Machines are compared.
-/
import Derived.Test.YtabldlhigjhkeaaDoorLawLib
import Derived.Deep.DeepCutAuto
namespace Go.Proofs.YtabldlhigjhkeaaDoor
open Go.RowKit

set_option linter.unusedVariables false
set_option linter.unusedSimpArgs false
set_option maxRecDepth 100000

set_option maxHeartbeats 64000000 in
theorem laMach_any (a : MchMach) (b : MchMach) (va1 va2 va3 va4 vb1 vb2 vb3 vb4 : Value) (w : World) (ha1 : Sl w (Old w) va1 a.regs) (ha2 : Sl w (Old w) va2 a.mem) (ha3 : Sl w (Old w) va3 a.ins) (ha4 : Sl w (Old w) va4 a.outs) (hb1 : Sl w (Old w) vb1 b.regs) (hb2 : Sl w (Old w) vb2 b.mem) (hb3 : Sl w (Old w) vb3 b.ins) (hb4 : Sl w (Old w) vb4 b.outs)  :
    Calls Tryd.prog 36 #[.agg #[va1, .int .i64 a.pc, va2, .int .i64 a.save, .bool a.lets, .bool a.waits, .int .i64 a.halt, va3, va4, .int .i64 a.count], .agg #[vb1, .int .i64 b.pc, vb2, .int .i64 b.save, .bool b.lets, .bool b.waits, .int .i64 b.halt, vb3, vb4, .int .i64 b.count]] w fun e w' => e = .returned (.bool (decide (a = b))) ∧ Ext w w' := by
  obtain ⟨Aa1, ca1, rfl, hla1, hma1⟩ := ha1.form
  obtain ⟨Aa2, ca2, rfl, hla2, hma2⟩ := ha2.form
  obtain ⟨Aa3, ca3, rfl, hla3, hma3⟩ := ha3.form
  obtain ⟨Aa4, ca4, rfl, hla4, hma4⟩ := ha4.form
  obtain ⟨Ab1, cb1, rfl, hlb1, hmb1⟩ := hb1.form
  obtain ⟨Ab2, cb2, rfl, hlb2, hmb2⟩ := hb2.form
  obtain ⟨Ab3, cb3, rfl, hlb3, hmb3⟩ := hb3.form
  obtain ⟨Ab4, cb4, rfl, hlb4, hmb4⟩ := hb4.form
  have he0 : Ext w ((w.alloc (Obj.cells #[(.slice Aa1 a.regs.length ca1), .int .i64 a.pc, (.slice Aa2 a.mem.length ca2), .int .i64 a.save, .bool a.lets, .bool a.waits, .int .i64 a.halt, (.slice Aa3 a.ins.length ca3), (.slice Aa4 a.outs.length ca4), .int .i64 a.count] 26)).alloc (Obj.cells #[(.slice Ab1 b.regs.length cb1), .int .i64 b.pc, (.slice Ab2 b.mem.length cb2), .int .i64 b.save, .bool b.lets, .bool b.waits, .int .i64 b.halt, (.slice Ab3 b.ins.length cb3), (.slice Ab4 b.outs.length cb4), .int .i64 b.count] 26)) := Ext.auto
  have ga1 := ha1.ext he0
  have gb1 := hb1.ext he0
  have ga2 := ha2.ext he0
  have gb2 := hb2.ext he0
  have ga3 := ha3.ext he0
  have gb3 := hb3.ext he0
  have ga4 := ha4.ext he0
  have gb4 := hb4.ext he0
  by_cases h0 : a.regs = b.regs
  rotate_left
  · 
    have q0 : decide (a.regs = b.regs) = false := by simp [h0]
    have HC := hide (show decide (a = b) = false from decide_eq_false (fun e => h0 (by rw [e])))
    clear h0
    go_enter Tryd.func36, Tryd.ntmps36
    go_wp2_with (first | (go_at_call 35; with_reducible refine (laIntsN_any a.regs b.regs _ _ _ (ga1) (gb1)).mono ?_; rintro e w' ⟨rfl, nregs, rfl⟩) | (go_at_call 35; with_reducible refine (laIntsN_any a.mem b.mem _ _ _ (ga2.ext ((Ext.refl _).drewN _)) (gb2.ext ((Ext.refl _).drewN _))).mono ?_; rintro e w' ⟨rfl, nmem, rfl⟩) | (go_at_call 35; with_reducible refine (laIntsN_any a.ins b.ins _ _ _ (ga3.ext ((Ext.refl _).drewN _)) (gb3.ext ((Ext.refl _).drewN _))).mono ?_; rintro e w' ⟨rfl, nins, rfl⟩) | (go_at_call 35; with_reducible refine (laIntsN_any a.outs b.outs _ _ _ (ga4.ext ((Ext.refl _).drewN _)) (gb4.ext ((Ext.refl _).drewN _))).mono ?_; rintro e w' ⟨rfl, nouts, rfl⟩))
    go_ret
    exact ⟨by rw [HC.out]; rfl, Ext.auto⟩
  have q0 : decide (a.regs = b.regs) = true := by simp [h0]
  have H0 := hide h0
  clear h0
  by_cases h1 : a.pc = b.pc
  rotate_left
  · 
    have q1 : (a.pc == b.pc) = false := by simp [h1]
    have HC := hide (show decide (a = b) = false from decide_eq_false (fun e => h1 (by rw [e])))
    clear h1
    go_enter Tryd.func36, Tryd.ntmps36
    go_wp2_with (first | (go_at_call 35; with_reducible refine (laIntsN_any a.regs b.regs _ _ _ (ga1) (gb1)).mono ?_; rintro e w' ⟨rfl, nregs, rfl⟩) | (go_at_call 35; with_reducible refine (laIntsN_any a.mem b.mem _ _ _ (ga2.ext ((Ext.refl _).drewN _)) (gb2.ext ((Ext.refl _).drewN _))).mono ?_; rintro e w' ⟨rfl, nmem, rfl⟩) | (go_at_call 35; with_reducible refine (laIntsN_any a.ins b.ins _ _ _ (ga3.ext ((Ext.refl _).drewN _)) (gb3.ext ((Ext.refl _).drewN _))).mono ?_; rintro e w' ⟨rfl, nins, rfl⟩) | (go_at_call 35; with_reducible refine (laIntsN_any a.outs b.outs _ _ _ (ga4.ext ((Ext.refl _).drewN _)) (gb4.ext ((Ext.refl _).drewN _))).mono ?_; rintro e w' ⟨rfl, nouts, rfl⟩))
    go_ret
    exact ⟨by rw [HC.out]; rfl, Ext.auto⟩
  have q1 : (a.pc == b.pc) = true := by simp [h1]
  have H1 := hide h1
  clear h1
  by_cases h2 : a.mem = b.mem
  rotate_left
  · 
    have q2 : decide (a.mem = b.mem) = false := by simp [h2]
    have HC := hide (show decide (a = b) = false from decide_eq_false (fun e => h2 (by rw [e])))
    clear h2
    go_enter Tryd.func36, Tryd.ntmps36
    go_wp2_with (first | (go_at_call 35; with_reducible refine (laIntsN_any a.regs b.regs _ _ _ (ga1) (gb1)).mono ?_; rintro e w' ⟨rfl, nregs, rfl⟩) | (go_at_call 35; with_reducible refine (laIntsN_any a.mem b.mem _ _ _ (ga2.ext ((Ext.refl _).drewN _)) (gb2.ext ((Ext.refl _).drewN _))).mono ?_; rintro e w' ⟨rfl, nmem, rfl⟩) | (go_at_call 35; with_reducible refine (laIntsN_any a.ins b.ins _ _ _ (ga3.ext ((Ext.refl _).drewN _)) (gb3.ext ((Ext.refl _).drewN _))).mono ?_; rintro e w' ⟨rfl, nins, rfl⟩) | (go_at_call 35; with_reducible refine (laIntsN_any a.outs b.outs _ _ _ (ga4.ext ((Ext.refl _).drewN _)) (gb4.ext ((Ext.refl _).drewN _))).mono ?_; rintro e w' ⟨rfl, nouts, rfl⟩))
    go_ret
    exact ⟨by rw [HC.out]; rfl, Ext.auto⟩
  have q2 : decide (a.mem = b.mem) = true := by simp [h2]
  have H2 := hide h2
  clear h2
  by_cases h3 : a.save = b.save
  rotate_left
  · 
    have q3 : (a.save == b.save) = false := by simp [h3]
    have HC := hide (show decide (a = b) = false from decide_eq_false (fun e => h3 (by rw [e])))
    clear h3
    go_enter Tryd.func36, Tryd.ntmps36
    go_wp2_with (first | (go_at_call 35; with_reducible refine (laIntsN_any a.regs b.regs _ _ _ (ga1) (gb1)).mono ?_; rintro e w' ⟨rfl, nregs, rfl⟩) | (go_at_call 35; with_reducible refine (laIntsN_any a.mem b.mem _ _ _ (ga2.ext ((Ext.refl _).drewN _)) (gb2.ext ((Ext.refl _).drewN _))).mono ?_; rintro e w' ⟨rfl, nmem, rfl⟩) | (go_at_call 35; with_reducible refine (laIntsN_any a.ins b.ins _ _ _ (ga3.ext ((Ext.refl _).drewN _)) (gb3.ext ((Ext.refl _).drewN _))).mono ?_; rintro e w' ⟨rfl, nins, rfl⟩) | (go_at_call 35; with_reducible refine (laIntsN_any a.outs b.outs _ _ _ (ga4.ext ((Ext.refl _).drewN _)) (gb4.ext ((Ext.refl _).drewN _))).mono ?_; rintro e w' ⟨rfl, nouts, rfl⟩))
    go_ret
    exact ⟨by rw [HC.out]; rfl, Ext.auto⟩
  have q3 : (a.save == b.save) = true := by simp [h3]
  have H3 := hide h3
  clear h3
  by_cases h4 : a.lets = b.lets
  rotate_left
  · 
    have q4 : (a.lets == b.lets) = false := by simp [h4]
    have HC := hide (show decide (a = b) = false from decide_eq_false (fun e => h4 (by rw [e])))
    clear h4
    go_enter Tryd.func36, Tryd.ntmps36
    go_wp2_with (first | (go_at_call 35; with_reducible refine (laIntsN_any a.regs b.regs _ _ _ (ga1) (gb1)).mono ?_; rintro e w' ⟨rfl, nregs, rfl⟩) | (go_at_call 35; with_reducible refine (laIntsN_any a.mem b.mem _ _ _ (ga2.ext ((Ext.refl _).drewN _)) (gb2.ext ((Ext.refl _).drewN _))).mono ?_; rintro e w' ⟨rfl, nmem, rfl⟩) | (go_at_call 35; with_reducible refine (laIntsN_any a.ins b.ins _ _ _ (ga3.ext ((Ext.refl _).drewN _)) (gb3.ext ((Ext.refl _).drewN _))).mono ?_; rintro e w' ⟨rfl, nins, rfl⟩) | (go_at_call 35; with_reducible refine (laIntsN_any a.outs b.outs _ _ _ (ga4.ext ((Ext.refl _).drewN _)) (gb4.ext ((Ext.refl _).drewN _))).mono ?_; rintro e w' ⟨rfl, nouts, rfl⟩))
    go_ret
    exact ⟨by rw [HC.out]; rfl, Ext.auto⟩
  have q4 : (a.lets == b.lets) = true := by simp [h4]
  have H4 := hide h4
  clear h4
  by_cases h5 : a.waits = b.waits
  rotate_left
  · 
    have q5 : (a.waits == b.waits) = false := by simp [h5]
    have HC := hide (show decide (a = b) = false from decide_eq_false (fun e => h5 (by rw [e])))
    clear h5
    go_enter Tryd.func36, Tryd.ntmps36
    go_wp2_with (first | (go_at_call 35; with_reducible refine (laIntsN_any a.regs b.regs _ _ _ (ga1) (gb1)).mono ?_; rintro e w' ⟨rfl, nregs, rfl⟩) | (go_at_call 35; with_reducible refine (laIntsN_any a.mem b.mem _ _ _ (ga2.ext ((Ext.refl _).drewN _)) (gb2.ext ((Ext.refl _).drewN _))).mono ?_; rintro e w' ⟨rfl, nmem, rfl⟩) | (go_at_call 35; with_reducible refine (laIntsN_any a.ins b.ins _ _ _ (ga3.ext ((Ext.refl _).drewN _)) (gb3.ext ((Ext.refl _).drewN _))).mono ?_; rintro e w' ⟨rfl, nins, rfl⟩) | (go_at_call 35; with_reducible refine (laIntsN_any a.outs b.outs _ _ _ (ga4.ext ((Ext.refl _).drewN _)) (gb4.ext ((Ext.refl _).drewN _))).mono ?_; rintro e w' ⟨rfl, nouts, rfl⟩))
    go_ret
    exact ⟨by rw [HC.out]; rfl, Ext.auto⟩
  have q5 : (a.waits == b.waits) = true := by simp [h5]
  have H5 := hide h5
  clear h5
  by_cases h6 : a.halt = b.halt
  rotate_left
  · 
    have q6 : (a.halt == b.halt) = false := by simp [h6]
    have HC := hide (show decide (a = b) = false from decide_eq_false (fun e => h6 (by rw [e])))
    clear h6
    go_enter Tryd.func36, Tryd.ntmps36
    go_wp2_with (first | (go_at_call 35; with_reducible refine (laIntsN_any a.regs b.regs _ _ _ (ga1) (gb1)).mono ?_; rintro e w' ⟨rfl, nregs, rfl⟩) | (go_at_call 35; with_reducible refine (laIntsN_any a.mem b.mem _ _ _ (ga2.ext ((Ext.refl _).drewN _)) (gb2.ext ((Ext.refl _).drewN _))).mono ?_; rintro e w' ⟨rfl, nmem, rfl⟩) | (go_at_call 35; with_reducible refine (laIntsN_any a.ins b.ins _ _ _ (ga3.ext ((Ext.refl _).drewN _)) (gb3.ext ((Ext.refl _).drewN _))).mono ?_; rintro e w' ⟨rfl, nins, rfl⟩) | (go_at_call 35; with_reducible refine (laIntsN_any a.outs b.outs _ _ _ (ga4.ext ((Ext.refl _).drewN _)) (gb4.ext ((Ext.refl _).drewN _))).mono ?_; rintro e w' ⟨rfl, nouts, rfl⟩))
    go_ret
    exact ⟨by rw [HC.out]; rfl, Ext.auto⟩
  have q6 : (a.halt == b.halt) = true := by simp [h6]
  have H6 := hide h6
  clear h6
  by_cases h7 : a.ins = b.ins
  rotate_left
  · 
    have q7 : decide (a.ins = b.ins) = false := by simp [h7]
    have HC := hide (show decide (a = b) = false from decide_eq_false (fun e => h7 (by rw [e])))
    clear h7
    go_enter Tryd.func36, Tryd.ntmps36
    go_wp2_with (first | (go_at_call 35; with_reducible refine (laIntsN_any a.regs b.regs _ _ _ (ga1) (gb1)).mono ?_; rintro e w' ⟨rfl, nregs, rfl⟩) | (go_at_call 35; with_reducible refine (laIntsN_any a.mem b.mem _ _ _ (ga2.ext ((Ext.refl _).drewN _)) (gb2.ext ((Ext.refl _).drewN _))).mono ?_; rintro e w' ⟨rfl, nmem, rfl⟩) | (go_at_call 35; with_reducible refine (laIntsN_any a.ins b.ins _ _ _ (ga3.ext ((Ext.refl _).drewN _)) (gb3.ext ((Ext.refl _).drewN _))).mono ?_; rintro e w' ⟨rfl, nins, rfl⟩) | (go_at_call 35; with_reducible refine (laIntsN_any a.outs b.outs _ _ _ (ga4.ext ((Ext.refl _).drewN _)) (gb4.ext ((Ext.refl _).drewN _))).mono ?_; rintro e w' ⟨rfl, nouts, rfl⟩))
    go_ret
    exact ⟨by rw [HC.out]; rfl, Ext.auto⟩
  have q7 : decide (a.ins = b.ins) = true := by simp [h7]
  have H7 := hide h7
  clear h7
  by_cases h8 : a.outs = b.outs
  rotate_left
  · 
    have q8 : decide (a.outs = b.outs) = false := by simp [h8]
    have HC := hide (show decide (a = b) = false from decide_eq_false (fun e => h8 (by rw [e])))
    clear h8
    go_enter Tryd.func36, Tryd.ntmps36
    go_wp2_with (first | (go_at_call 35; with_reducible refine (laIntsN_any a.regs b.regs _ _ _ (ga1) (gb1)).mono ?_; rintro e w' ⟨rfl, nregs, rfl⟩) | (go_at_call 35; with_reducible refine (laIntsN_any a.mem b.mem _ _ _ (ga2.ext ((Ext.refl _).drewN _)) (gb2.ext ((Ext.refl _).drewN _))).mono ?_; rintro e w' ⟨rfl, nmem, rfl⟩) | (go_at_call 35; with_reducible refine (laIntsN_any a.ins b.ins _ _ _ (ga3.ext ((Ext.refl _).drewN _)) (gb3.ext ((Ext.refl _).drewN _))).mono ?_; rintro e w' ⟨rfl, nins, rfl⟩) | (go_at_call 35; with_reducible refine (laIntsN_any a.outs b.outs _ _ _ (ga4.ext ((Ext.refl _).drewN _)) (gb4.ext ((Ext.refl _).drewN _))).mono ?_; rintro e w' ⟨rfl, nouts, rfl⟩))
    go_ret
    exact ⟨by rw [HC.out]; rfl, Ext.auto⟩
  have q8 : decide (a.outs = b.outs) = true := by simp [h8]
  have H8 := hide h8
  clear h8
  by_cases h9 : a.count = b.count
  rotate_left
  · 
    have q9 : (a.count == b.count) = false := by simp [h9]
    have HC := hide (show decide (a = b) = false from decide_eq_false (fun e => h9 (by rw [e])))
    clear h9
    go_enter Tryd.func36, Tryd.ntmps36
    go_wp2_with (first | (go_at_call 35; with_reducible refine (laIntsN_any a.regs b.regs _ _ _ (ga1) (gb1)).mono ?_; rintro e w' ⟨rfl, nregs, rfl⟩) | (go_at_call 35; with_reducible refine (laIntsN_any a.mem b.mem _ _ _ (ga2.ext ((Ext.refl _).drewN _)) (gb2.ext ((Ext.refl _).drewN _))).mono ?_; rintro e w' ⟨rfl, nmem, rfl⟩) | (go_at_call 35; with_reducible refine (laIntsN_any a.ins b.ins _ _ _ (ga3.ext ((Ext.refl _).drewN _)) (gb3.ext ((Ext.refl _).drewN _))).mono ?_; rintro e w' ⟨rfl, nins, rfl⟩) | (go_at_call 35; with_reducible refine (laIntsN_any a.outs b.outs _ _ _ (ga4.ext ((Ext.refl _).drewN _)) (gb4.ext ((Ext.refl _).drewN _))).mono ?_; rintro e w' ⟨rfl, nouts, rfl⟩))
    go_ret
    exact ⟨by rw [HC.out]; rfl, Ext.auto⟩
  have q9 : (a.count == b.count) = true := by simp [h9]
  have H9 := hide h9
  clear h9
  have HC := hide (show decide (a = b) = true from decide_eq_true ((MchMach.eq_iff a b).2 ⟨H0.out, H1.out, H2.out, H3.out, H4.out, H5.out, H6.out, H7.out, H8.out, H9.out⟩))
  go_enter Tryd.func36, Tryd.ntmps36
  go_wp2_with (first | (go_at_call 35; with_reducible refine (laIntsN_any a.regs b.regs _ _ _ (ga1) (gb1)).mono ?_; rintro e w' ⟨rfl, nregs, rfl⟩) | (go_at_call 35; with_reducible refine (laIntsN_any a.mem b.mem _ _ _ (ga2.ext ((Ext.refl _).drewN _)) (gb2.ext ((Ext.refl _).drewN _))).mono ?_; rintro e w' ⟨rfl, nmem, rfl⟩) | (go_at_call 35; with_reducible refine (laIntsN_any a.ins b.ins _ _ _ (ga3.ext ((Ext.refl _).drewN _)) (gb3.ext ((Ext.refl _).drewN _))).mono ?_; rintro e w' ⟨rfl, nins, rfl⟩) | (go_at_call 35; with_reducible refine (laIntsN_any a.outs b.outs _ _ _ (ga4.ext ((Ext.refl _).drewN _)) (gb4.ext ((Ext.refl _).drewN _))).mono ?_; rintro e w' ⟨rfl, nouts, rfl⟩))
  go_ret
  exact ⟨by rw [HC.out]; rfl, Ext.auto⟩

end Go.Proofs.YtabldlhigjhkeaaDoor
