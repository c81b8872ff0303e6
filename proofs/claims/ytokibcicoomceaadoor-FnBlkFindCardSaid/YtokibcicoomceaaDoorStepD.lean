/-
  An instruction is done: the reference.
-/
import Derived.Test.YtokibcicoomceaaDoorStepM
import Derived.Deep.DeepCutAuto
namespace Go.Proofs.YtokibcicoomceaaDoor
open Go.RowKit

set_option linter.unusedVariables false
set_option linter.unusedSimpArgs false
set_option maxRecDepth 100000

theorem mStop_same (m : MchMach) (k : Int) : (mStop m k).regs = m.regs ∧ (mStop m k).mem = m.mem ∧ (mStop m k).ins = m.ins ∧ (mStop m k).outs = m.outs := by
  unfold mStop MchMach.next
  repeat' split
  all_goals exact ⟨rfl, rfl, rfl, rfl⟩

set_option maxHeartbeats 64000000 in
theorem l3Do_any (m : MchMach) (g1 o1 c1 g2 o2 c2 : Nat) (v3 v4 : Value) (lo : Nat) (X : List Nat) (w : World) (hM : Mach 3 lo X w g1 o1 c1 g2 o2 c2 v3 v4 m) (hk : MOk m) (hc : m.count < 1000000) (hn4 : m.outs.length ≤ 4194304) (op : Int) (D a : Nat) (k : Int) (hD : D < 4) (ha : a < 4) (hk0 : 0 ≤ k) (hk1 : k ≤ 255) (hop : op = 0 ∨ op = 1 ∨ op = 2 ∨ op = 3 ∨ op = 4 ∨ op = 5 ∨ op = 6 ∨ op = 7 ∨ op = 8 ∨ op = 9 ∨ op = 10 ∨ op = 11 ∨ op = 12 ∨ op = 13 ∨ op = 14 ∨ op = 15) (hkc : 3 ≤ op → op ≤ 7 → k < 4) :
    Calls Tryd.prog 110 #[.agg #[(.slice (some ⟨g1, o1, none⟩) 4 c1), .int .i64 m.pc, (.slice (some ⟨g2, o2, none⟩) 64 c2), .int .i64 m.save, .bool m.lets, .bool m.waits, .int .i64 m.halt, v3, v4, .int .i64 m.count], .agg #[.int .i64 op, .int .i64 (D : Int), .int .i64 (a : Int), .int .i64 k]] w fun e w' => ∃ v3' v4', e = .returned (.agg #[(.slice (some ⟨g1, o1, none⟩) 4 c1), .int .i64 ((mDo m ⟨op, (D : Int), (a : Int), k⟩).pc), (.slice (some ⟨g2, o2, none⟩) 64 c2), .int .i64 ((mDo m ⟨op, (D : Int), (a : Int), k⟩).save), .bool (mDo m ⟨op, (D : Int), (a : Int), k⟩).lets, .bool (mDo m ⟨op, (D : Int), (a : Int), k⟩).waits, .int .i64 ((mDo m ⟨op, (D : Int), (a : Int), k⟩).halt), v3', v4', .int .i64 ((mDo m ⟨op, (D : Int), (a : Int), k⟩).count)]) ∧ Mach 3 lo X w' g1 o1 c1 g2 o2 c2 v3' v4' (mDo m ⟨op, (D : Int), (a : Int), k⟩) ∧ Turn (mfoot g1 g2 v4) w w' ∧ (∀ q, v4'.ownBlock = some q → v4.ownBlock = some q ∨ w.heap.size ≤ q) := by
  obtain ⟨A3, c3, rfl, hl3, hm3⟩ := hM.form3
  obtain ⟨A4, c4, rfl, hl4, hm4⟩ := hM.form4
  unfold maxLen at hm3 hm4
  have hp0 := hk.p0
  have hp1 := hk.p1
  have hc0 := hk.c0
  have hlt := hM.lt
  have hlt1 := hlt.1
  have hlt2 := hlt.2.1
  have hgl1 := hlt.2.2.1
  have hgl2 := hlt.2.2.2.1
  have hown : ∀ q, (Value.slice A4 m.outs.length c4).ownBlock = some q → q < w.heap.size := fun q hq => (hlt.2.2.2.2 q (by unfold mfoot; simp [hq])).2
  have hfoot : ∀ x, x ∈ mfoot g1 g2 (Value.slice A4 m.outs.length c4) → x < w.heap.size := fun x hx => (hlt.2.2.2.2 x hx).2
  clear hlt
  have hs0_ := hk.s0
  have hs1_ := hk.s1
  go_enter Tryd.func110, Tryd.ntmps110
  go_upto_region 1 with fail
  have he0 : Ext w (((w.alloc (Obj.cells #[(.slice (some ⟨g1, o1, none⟩) 4 c1), .int .i64 m.pc, (.slice (some ⟨g2, o2, none⟩) 64 c2), .int .i64 m.save, .bool m.lets, .bool m.waits, .int .i64 m.halt, (.slice A3 m.ins.length c3), (.slice A4 m.outs.length c4), .int .i64 m.count] 51)).alloc (Obj.cells #[.int .i64 op, .int .i64 (D : Int), .int .i64 (a : Int), .int .i64 k] 30)).alloc (Obj.cells #[.slice none 0 0, .int .i64 0, .slice none 0 0, .int .i64 0, .bool false, .bool false, .int .i64 0, .slice none 0 0, .slice none 0 0, .int .i64 0] 51)) := (Ext.auto)
  have hs0 : w.heap.size + 3 ≤ ((((w.alloc (Obj.cells #[(.slice (some ⟨g1, o1, none⟩) 4 c1), .int .i64 m.pc, (.slice (some ⟨g2, o2, none⟩) 64 c2), .int .i64 m.save, .bool m.lets, .bool m.waits, .int .i64 m.halt, (.slice A3 m.ins.length c3), (.slice A4 m.outs.length c4), .int .i64 m.count] 51)).alloc (Obj.cells #[.int .i64 op, .int .i64 (D : Int), .int .i64 (a : Int), .int .i64 k] 30)).alloc (Obj.cells #[.slice none 0 0, .int .i64 0, .slice none 0 0, .int .i64 0, .bool false, .bool false, .int .i64 0, .slice none 0 0, .slice none 0 0, .int .i64 0] 51))).heap.size := by simp
  have hq0 := hide (show ((((w.alloc (Obj.cells #[(.slice (some ⟨g1, o1, none⟩) 4 c1), .int .i64 m.pc, (.slice (some ⟨g2, o2, none⟩) 64 c2), .int .i64 m.save, .bool m.lets, .bool m.waits, .int .i64 m.halt, (.slice A3 m.ins.length c3), (.slice A4 m.outs.length c4), .int .i64 m.count] 51)).alloc (Obj.cells #[.int .i64 op, .int .i64 (D : Int), .int .i64 (a : Int), .int .i64 k] 30)).alloc (Obj.cells #[.slice none 0 0, .int .i64 0, .slice none 0 0, .int .i64 0, .bool false, .bool false, .int .i64 0, .slice none 0 0, .slice none 0 0, .int .i64 0] 51))).heap.size = w.heap.size + 3 by simp)
  have hBm_0 : Bx (((w.alloc (Obj.cells #[(.slice (some ⟨g1, o1, none⟩) 4 c1), .int .i64 m.pc, (.slice (some ⟨g2, o2, none⟩) 64 c2), .int .i64 m.save, .bool m.lets, .bool m.waits, .int .i64 m.halt, (.slice A3 m.ins.length c3), (.slice A4 m.outs.length c4), .int .i64 m.count] 51)).alloc (Obj.cells #[.int .i64 op, .int .i64 (D : Int), .int .i64 (a : Int), .int .i64 k] 30)).alloc (Obj.cells #[.slice none 0 0, .int .i64 0, .slice none 0 0, .int .i64 0, .bool false, .bool false, .int .i64 0, .slice none 0 0, .slice none 0 0, .int .i64 0] 51)) (w.heap.size) [(.slice (some ⟨g1, o1, none⟩) 4 c1), .int .i64 m.pc, (.slice (some ⟨g2, o2, none⟩) 64 c2), .int .i64 m.save, .bool m.lets, .bool m.waits, .int .i64 m.halt, (.slice A3 m.ins.length c3), (.slice A4 m.outs.length c4), .int .i64 m.count] := (by have := (Bx.alloc (Bx.alloc (Bx.new w #[(.slice (some ⟨g1, o1, none⟩) 4 c1), .int .i64 m.pc, (.slice (some ⟨g2, o2, none⟩) 64 c2), .int .i64 m.save, .bool m.lets, .bool m.waits, .int .i64 m.halt, (.slice A3 m.ins.length c3), (.slice A4 m.outs.length c4), .int .i64 m.count] 51) (by simp) #[.int .i64 op, .int .i64 (D : Int), .int .i64 (a : Int), .int .i64 k] 30) (by first | (simp; done) | (simp; omega)) #[.slice none 0 0, .int .i64 0, .slice none 0 0, .int .i64 0, .bool false, .bool false, .int .i64 0, .slice none 0 0, .slice none 0 0, .int .i64 0] 51); simpa using this)
  have hFm_0 : ∀ oo, ((((w.alloc (Obj.cells #[(.slice (some ⟨g1, o1, none⟩) 4 c1), .int .i64 m.pc, (.slice (some ⟨g2, o2, none⟩) 64 c2), .int .i64 m.save, .bool m.lets, .bool m.waits, .int .i64 m.halt, (.slice A3 m.ins.length c3), (.slice A4 m.outs.length c4), .int .i64 m.count] 51)).alloc (Obj.cells #[.int .i64 op, .int .i64 (D : Int), .int .i64 (a : Int), .int .i64 k] 30)).alloc (Obj.cells #[.slice none 0 0, .int .i64 0, .slice none 0 0, .int .i64 0, .bool false, .bool false, .int .i64 0, .slice none 0 0, .slice none 0 0, .int .i64 0] 51))).frozen? ⟨w.heap.size, oo, none⟩ = false := (fz_alloc (fz_alloc (fz_new w #[(.slice (some ⟨g1, o1, none⟩) 4 c1), .int .i64 m.pc, (.slice (some ⟨g2, o2, none⟩) 64 c2), .int .i64 m.save, .bool m.lets, .bool m.waits, .int .i64 m.halt, (.slice A3 m.ins.length c3), (.slice A4 m.outs.length c4), .int .i64 m.count] 51 (by first | rfl | (simp; done))) (by first | (simp; done) | (simp; omega)) (Obj.cells #[.int .i64 op, .int .i64 (D : Int), .int .i64 (a : Int), .int .i64 k] 30)) (by first | (simp; done) | (simp; omega)) (Obj.cells #[.slice none 0 0, .int .i64 0, .slice none 0 0, .int .i64 0, .bool false, .bool false, .int .i64 0, .slice none 0 0, .slice none 0 0, .int .i64 0] 51))
  have hBi_0 : Bx (((w.alloc (Obj.cells #[(.slice (some ⟨g1, o1, none⟩) 4 c1), .int .i64 m.pc, (.slice (some ⟨g2, o2, none⟩) 64 c2), .int .i64 m.save, .bool m.lets, .bool m.waits, .int .i64 m.halt, (.slice A3 m.ins.length c3), (.slice A4 m.outs.length c4), .int .i64 m.count] 51)).alloc (Obj.cells #[.int .i64 op, .int .i64 (D : Int), .int .i64 (a : Int), .int .i64 k] 30)).alloc (Obj.cells #[.slice none 0 0, .int .i64 0, .slice none 0 0, .int .i64 0, .bool false, .bool false, .int .i64 0, .slice none 0 0, .slice none 0 0, .int .i64 0] 51)) (w.heap.size + 1) [.int .i64 op, .int .i64 (D : Int), .int .i64 (a : Int), .int .i64 k] := (by have := (Bx.alloc (Bx.new (w.alloc (Obj.cells #[(.slice (some ⟨g1, o1, none⟩) 4 c1), .int .i64 m.pc, (.slice (some ⟨g2, o2, none⟩) 64 c2), .int .i64 m.save, .bool m.lets, .bool m.waits, .int .i64 m.halt, (.slice A3 m.ins.length c3), (.slice A4 m.outs.length c4), .int .i64 m.count] 51)) #[.int .i64 op, .int .i64 (D : Int), .int .i64 (a : Int), .int .i64 k] 30) (by simp) #[.slice none 0 0, .int .i64 0, .slice none 0 0, .int .i64 0, .bool false, .bool false, .int .i64 0, .slice none 0 0, .slice none 0 0, .int .i64 0] 51); simpa using this)
  have hFi_0 : ∀ oo, ((((w.alloc (Obj.cells #[(.slice (some ⟨g1, o1, none⟩) 4 c1), .int .i64 m.pc, (.slice (some ⟨g2, o2, none⟩) 64 c2), .int .i64 m.save, .bool m.lets, .bool m.waits, .int .i64 m.halt, (.slice A3 m.ins.length c3), (.slice A4 m.outs.length c4), .int .i64 m.count] 51)).alloc (Obj.cells #[.int .i64 op, .int .i64 (D : Int), .int .i64 (a : Int), .int .i64 k] 30)).alloc (Obj.cells #[.slice none 0 0, .int .i64 0, .slice none 0 0, .int .i64 0, .bool false, .bool false, .int .i64 0, .slice none 0 0, .slice none 0 0, .int .i64 0] 51))).frozen? ⟨w.heap.size + 1, oo, none⟩ = false := (fz_alloc (fz_new (w.alloc (Obj.cells #[(.slice (some ⟨g1, o1, none⟩) 4 c1), .int .i64 m.pc, (.slice (some ⟨g2, o2, none⟩) 64 c2), .int .i64 m.save, .bool m.lets, .bool m.waits, .int .i64 m.halt, (.slice A3 m.ins.length c3), (.slice A4 m.outs.length c4), .int .i64 m.count] 51)) #[.int .i64 op, .int .i64 (D : Int), .int .i64 (a : Int), .int .i64 k] 30 (by first | rfl | (simp; done))) (by first | (simp; done) | (simp; omega)) (Obj.cells #[.slice none 0 0, .int .i64 0, .slice none 0 0, .int .i64 0, .bool false, .bool false, .int .i64 0, .slice none 0 0, .slice none 0 0, .int .i64 0] 51))
  have hBres_0 : Bx (((w.alloc (Obj.cells #[(.slice (some ⟨g1, o1, none⟩) 4 c1), .int .i64 m.pc, (.slice (some ⟨g2, o2, none⟩) 64 c2), .int .i64 m.save, .bool m.lets, .bool m.waits, .int .i64 m.halt, (.slice A3 m.ins.length c3), (.slice A4 m.outs.length c4), .int .i64 m.count] 51)).alloc (Obj.cells #[.int .i64 op, .int .i64 (D : Int), .int .i64 (a : Int), .int .i64 k] 30)).alloc (Obj.cells #[.slice none 0 0, .int .i64 0, .slice none 0 0, .int .i64 0, .bool false, .bool false, .int .i64 0, .slice none 0 0, .slice none 0 0, .int .i64 0] 51)) (w.heap.size + 1 + 1) [.slice none 0 0, .int .i64 0, .slice none 0 0, .int .i64 0, .bool false, .bool false, .int .i64 0, .slice none 0 0, .slice none 0 0, .int .i64 0] := (by have := (Bx.new ((w.alloc (Obj.cells #[(.slice (some ⟨g1, o1, none⟩) 4 c1), .int .i64 m.pc, (.slice (some ⟨g2, o2, none⟩) 64 c2), .int .i64 m.save, .bool m.lets, .bool m.waits, .int .i64 m.halt, (.slice A3 m.ins.length c3), (.slice A4 m.outs.length c4), .int .i64 m.count] 51)).alloc (Obj.cells #[.int .i64 op, .int .i64 (D : Int), .int .i64 (a : Int), .int .i64 k] 30)) #[.slice none 0 0, .int .i64 0, .slice none 0 0, .int .i64 0, .bool false, .bool false, .int .i64 0, .slice none 0 0, .slice none 0 0, .int .i64 0] 51); simpa using this)
  have hFres_0 : ∀ oo, ((((w.alloc (Obj.cells #[(.slice (some ⟨g1, o1, none⟩) 4 c1), .int .i64 m.pc, (.slice (some ⟨g2, o2, none⟩) 64 c2), .int .i64 m.save, .bool m.lets, .bool m.waits, .int .i64 m.halt, (.slice A3 m.ins.length c3), (.slice A4 m.outs.length c4), .int .i64 m.count] 51)).alloc (Obj.cells #[.int .i64 op, .int .i64 (D : Int), .int .i64 (a : Int), .int .i64 k] 30)).alloc (Obj.cells #[.slice none 0 0, .int .i64 0, .slice none 0 0, .int .i64 0, .bool false, .bool false, .int .i64 0, .slice none 0 0, .slice none 0 0, .int .i64 0] 51))).frozen? ⟨w.heap.size + 1 + 1, oo, none⟩ = false := (fz_new ((w.alloc (Obj.cells #[(.slice (some ⟨g1, o1, none⟩) 4 c1), .int .i64 m.pc, (.slice (some ⟨g2, o2, none⟩) 64 c2), .int .i64 m.save, .bool m.lets, .bool m.waits, .int .i64 m.halt, (.slice A3 m.ins.length c3), (.slice A4 m.outs.length c4), .int .i64 m.count] 51)).alloc (Obj.cells #[.int .i64 op, .int .i64 (D : Int), .int .i64 (a : Int), .int .i64 k] 30)) #[.slice none 0 0, .int .i64 0, .slice none 0 0, .int .i64 0, .bool false, .bool false, .int .i64 0, .slice none 0 0, .slice none 0 0, .int .i64 0] 51 (by first | rfl | (simp; done)))
  generalize (((w.alloc (Obj.cells #[(.slice (some ⟨g1, o1, none⟩) 4 c1), .int .i64 m.pc, (.slice (some ⟨g2, o2, none⟩) 64 c2), .int .i64 m.save, .bool m.lets, .bool m.waits, .int .i64 m.halt, (.slice A3 m.ins.length c3), (.slice A4 m.outs.length c4), .int .i64 m.count] 51)).alloc (Obj.cells #[.int .i64 op, .int .i64 (D : Int), .int .i64 (a : Int), .int .i64 k] 30)).alloc (Obj.cells #[.slice none 0 0, .int .i64 0, .slice none 0 0, .int .i64 0, .bool false, .bool false, .int .i64 0, .slice none 0 0, .slice none 0 0, .int .i64 0] 51)) = w0 at *
  have ht0 : Turn (mfoot g1 g2 (.slice A4 m.outs.length c4)) w w0 := Turn.of_ext he0 _
  have hM0 : Mach 3 lo ((w.heap.size) :: (w.heap.size + 1) :: (w.heap.size + 1 + 1) :: X) w0 g1 o1 c1 g2 o2 c2 (.slice A3 m.ins.length c3) (.slice A4 m.outs.length c4) m := hM.addXs he0 [w.heap.size, w.heap.size + 1, w.heap.size + 1 + 1] (by intro b hb; simp at hb; omega)
  have yg1 : g1 < w0.heap.size := by omega
  have yg2 : g2 < w0.heap.size := by omega
  have rD := hM0.regAt hD
  have ra := hM0.regAt ha
  have fr1 := hM0.fz1
  have fr2 := hM0.fz2
  have hb0 := (hk.reg (a : Int)).1
  have hb1 := (hk.reg (a : Int)).2
  have z0 : (0 : Int) ≤ (D : Int) := by omega
  have z1 : (D : Int) < 4 := by omega
  have z2 : (0 : Int) ≤ (a : Int) := by omega
  have z3 : (a : Int) < 4 := by omega
  by_cases hdo : 3 ≤ op ∧ op ≤ 7
  · 
    obtain ⟨k, rfl⟩ := Int.eq_ofNat_of_zero_le hk0
    have hkk : k < 4 := by have := hkc (by omega) (by omega); omega
    have rk := hM0.regAt hkk
    have z4 : (0 : Int) ≤ (k : Int) := by omega
    have z5 : (k : Int) < 4 := by omega
    have hwk := hk.reg (k : Int)
    have hdw := wordB_iff.1 (wrdDo_word (op - 2) (m.reg (a : Int)) (m.reg (k : Int)))
    have HV := hide (show mDo m ⟨op, (D : Int), (a : Int), (k : Int)⟩ = ((m.setR (D : Int) (wrdDo (op - 2) (m.reg (a : Int)) (m.reg (k : Int)))).next (m.pc + 1)) by unfold mDo; simp only []; rw [if_neg (by omega), if_neg (by omega), if_neg (by omega), if_neg (by omega), if_neg (by omega), if_neg (by omega), if_neg (by omega), if_neg (by omega), if_neg (by omega)])
    have q0 : (op == 0) = false := by simp; omega
    have q1 : (op == 1) = false := by simp; omega
    have q2 : (op == 2) = false := by simp; omega
    have q8 : (op == 8) = false := by simp; omega
    have q9 : (op == 9) = false := by simp; omega
    have q10 : (op == 10) = false := by simp; omega
    have q11 : (op == 11) = false := by simp; omega
    have q12 : (op == 12) = false := by simp; omega
    have q13 : (op == 13) = false := by simp; omega
    have q14 : (op == 14) = false := by simp; omega
    have q15 : (op == 15) = false := by simp; omega
    have ho2 := hide (show IntKind.i64.wrap (IntKind.i64.wrap (op - 3) + 1) = op - 2 by rw [IntKind.wrap_i64, IntKind.wrap_i64]; omega)
    have hwa := wordB_yes hb0 hb1
    have hwb := wordB_yes hwk.1 hwk.2
    have ym : w.heap.size < w0.heap.size := by omega
    have xm0 := hBm_0 0 _ rfl
    have xm1 := hBm_0 1 _ rfl
    have xm2 := hBm_0 2 _ rfl
    have xm3 := hBm_0 3 _ rfl
    have xm4 := hBm_0 4 _ rfl
    have xm5 := hBm_0 5 _ rfl
    have xm6 := hBm_0 6 _ rfl
    have xm7 := hBm_0 7 _ rfl
    have xm8 := hBm_0 8 _ rfl
    have xm9 := hBm_0 9 _ rfl
    have fm := hFm_0
    have yi : w.heap.size + 1 < w0.heap.size := by omega
    have xi0 := hBi_0 0 _ rfl
    have xi1 := hBi_0 1 _ rfl
    have xi2 := hBi_0 2 _ rfl
    have xi3 := hBi_0 3 _ rfl
    have fi := hFi_0
    have yres : w.heap.size + 1 + 1 < w0.heap.size := by omega
    have xres0 := hBres_0 0 _ rfl
    have xres1 := hBres_0 1 _ rfl
    have xres2 := hBres_0 2 _ rfl
    have xres3 := hBres_0 3 _ rfl
    have xres4 := hBres_0 4 _ rfl
    have xres5 := hBres_0 5 _ rfl
    have xres6 := hBres_0 6 _ rfl
    have xres7 := hBres_0 7 _ rfl
    have xres8 := hBres_0 8 _ rfl
    have xres9 := hBres_0 9 _ rfl
    have fres := hFres_0
    go_upto_region 27 with fail
    have hS : ∀ w', Ext w0 w' → ∀ bb oo, bb < w0.heap.size → w'.cell? ⟨bb, oo, none⟩ = w0.cell? ⟨bb, oo, none⟩ := fun w' hx bb oo hb => hx.cell hb
    refine wp_region_plan (fun w' => Ext w0 w') 15 (.float 0 (.float 1 (.float 2 (.float 3 (.float 4 (.float 5 (.float 6 (.float 7 (.float 8 (.float 9 (.float 10 (.float 11 (.float 12 (.float 13 (.chain 14 (.tail 15)))))))))))))))) (by kernel_rfl) (by kernel_rfl) (Ext.refl _).drew ?_
    iterate 14 ((refine Plan.float_step (v := ?_) rfl (by rfl) (fun _ _ _ h => h) (fun w' hSw => ?_) ?_; rotate_left; · (go_simp; try with_reducible rfl)); (try simp only [Act.put, List.setIfInBounds_toArray, List.set_cons_zero, List.set_cons_succ]))
    refine Plan.chain_step rfl (fun K hK => ?_)
    go_simp
    rw [ho2.out]
    refine (specWrdDo_any (op - 2) _ _ _ ⟨by omega, by omega⟩ hwa hwb).mono ?_
    rintro e w1 ⟨rfl, rfl⟩
    refine hK.out _ _ Ext.auto ?_
    clear hK
    (try simp only [Act.put, List.setIfInBounds_toArray, List.set_cons_zero, List.set_cons_succ])
    refine Plan.tail_step ?_
    simp only [List.drop_succ_cons, List.drop_zero]
    clear hS
    go_wp2_with fail
    refine (l3Set_any m _ _ _ _ _ _ _ _ lo _ _ hM0.drew hk hc D hD _ hdw.1 hdw.2).mono ?_
    rintro e w1 ⟨rfl, hM1, hy⟩
    clear xm0 xm1 xm2 xm3 xm4 xm5 xm6 xm7 xm8 xm9 ym
    clear fm
    clear xi0 xi1 xi2 xi3 yi
    clear fi
    clear xres0 xres1 xres2 xres3 xres4 xres5 xres6 xres7 xres8 xres9 yres
    clear fres
    have hs1 := hy.size
    try simp at hs1
    have ht1 : Turn (mfoot g1 g2 (.slice A4 m.outs.length c4)) w w1 := (Turn.hold ht0).trans hy (fun x hx => .inl (by unfold mfoot; simp at hx ⊢; simp [hx]))
    have hBres_1 : Bx w1 (w.heap.size + 1 + 1) [.slice none 0 0, .int .i64 0, .slice none 0 0, .int .i64 0, .bool false, .bool false, .int .i64 0, .slice none 0 0, .slice none 0 0, .int .i64 0] := hy.bx (Bx.hold hBres_0) (by first | omega | (simp; done) | (simp; omega)) (by simp; omega)
    have hFres_1 : ∀ oo, w1.frozen? ⟨w.heap.size + 1 + 1, oo, none⟩ = false := fun oo => (hy.frozen (by first | omega | (simp; done) | (simp; omega)) (by simp; omega)).trans ((fz_hold hFres_0) oo)
    try clear hBres_0 hFres_0
    have yres : w.heap.size + 1 + 1 < w1.heap.size := by omega
    have xres0 := hBres_1 0 _ rfl
    have xres1 := hBres_1 1 _ rfl
    have xres2 := hBres_1 2 _ rfl
    have xres3 := hBres_1 3 _ rfl
    have xres4 := hBres_1 4 _ rfl
    have xres5 := hBres_1 5 _ rfl
    have xres6 := hBres_1 6 _ rfl
    have xres7 := hBres_1 7 _ rfl
    have xres8 := hBres_1 8 _ rfl
    have xres9 := hBres_1 9 _ rfl
    have fres := hFres_1
    go_wp2
    refine bodyPost_ret (v := .agg #[(.slice (some ⟨g1, o1, none⟩) 4 c1), .int .i64 (((m.setR (D : Int) (wrdDo (op - 2) (m.reg (a : Int)) (m.reg (k : Int)))).next (m.pc + 1)).pc), (.slice (some ⟨g2, o2, none⟩) 64 c2), .int .i64 (((m.setR (D : Int) (wrdDo (op - 2) (m.reg (a : Int)) (m.reg (k : Int)))).next (m.pc + 1)).save), .bool ((m.setR (D : Int) (wrdDo (op - 2) (m.reg (a : Int)) (m.reg (k : Int)))).next (m.pc + 1)).lets, .bool ((m.setR (D : Int) (wrdDo (op - 2) (m.reg (a : Int)) (m.reg (k : Int)))).next (m.pc + 1)).waits, .int .i64 (((m.setR (D : Int) (wrdDo (op - 2) (m.reg (a : Int)) (m.reg (k : Int)))).next (m.pc + 1)).halt), (.slice A3 m.ins.length c3), (.slice A4 m.outs.length c4), .int .i64 (((m.setR (D : Int) (wrdDo (op - 2) (m.reg (a : Int)) (m.reg (k : Int)))).next (m.pc + 1)).count)]) (by simp [results, Tryd.results110, go_sem, MchMach.next, MchMach.setR, xres0, xres1, xres2, xres3, xres4, xres5, xres6, xres7, xres8, xres9]) rfl ⟨_, _, by rw [HV.out], by rw [HV.out]; exact Mach.dropX (Mach.dropX (Mach.dropX (Mach.hold hM1))), Turn.hold ht1, fun q hq => .inl hq⟩
  have hop : op = 0 ∨ op = 1 ∨ op = 2 ∨ op = 8 ∨ op = 9 ∨ op = 10 ∨ op = 11 ∨ op = 12 ∨ op = 13 ∨ op = 14 ∨ op = 15 := by omega
  clear hdo hkc
  rcases hop with rfl | rfl | rfl | rfl | rfl | rfl | rfl | rfl | rfl | rfl | rfl
  · 
    have HV := hide (show (mDo m ⟨0, (D : Int), (a : Int), k⟩) = (mStop m k) by rfl)
    have ym : w.heap.size < w0.heap.size := by omega
    have xm0 := hBm_0 0 _ rfl
    have xm1 := hBm_0 1 _ rfl
    have xm2 := hBm_0 2 _ rfl
    have xm3 := hBm_0 3 _ rfl
    have xm4 := hBm_0 4 _ rfl
    have xm5 := hBm_0 5 _ rfl
    have xm6 := hBm_0 6 _ rfl
    have xm7 := hBm_0 7 _ rfl
    have xm8 := hBm_0 8 _ rfl
    have xm9 := hBm_0 9 _ rfl
    have fm := hFm_0
    have yi : w.heap.size + 1 < w0.heap.size := by omega
    have xi0 := hBi_0 0 _ rfl
    have xi1 := hBi_0 1 _ rfl
    have xi2 := hBi_0 2 _ rfl
    have xi3 := hBi_0 3 _ rfl
    have fi := hFi_0
    have yres : w.heap.size + 1 + 1 < w0.heap.size := by omega
    have xres0 := hBres_0 0 _ rfl
    have xres1 := hBres_0 1 _ rfl
    have xres2 := hBres_0 2 _ rfl
    have xres3 := hBres_0 3 _ rfl
    have xres4 := hBres_0 4 _ rfl
    have xres5 := hBres_0 5 _ rfl
    have xres6 := hBres_0 6 _ rfl
    have xres7 := hBres_0 7 _ rfl
    have xres8 := hBres_0 8 _ rfl
    have xres9 := hBres_0 9 _ rfl
    have fres := hFres_0
    go_wp2_with fail
    refine (l3Stop_any m k hp0 hp1 hs0_ hs1_ hc0 (by omega) _ _ _ _ _ _ _ _ _ _ _ _ _).mono ?_
    rintro e w1 ⟨rfl, hy⟩
    clear xm0 xm1 xm2 xm3 xm4 xm5 xm6 xm7 xm8 xm9 ym
    clear fm
    clear xi0 xi1 xi2 xi3 yi
    clear fi
    clear xres0 xres1 xres2 xres3 xres4 xres5 xres6 xres7 xres8 xres9 yres
    clear fres
    have hs1 := hy.size
    try simp at hs1
    have ht1 : Turn (mfoot g1 g2 (.slice A4 m.outs.length c4)) w w1 := (Turn.hold ht0).call hy
    have hBres_1 : Bx w1 (w.heap.size + 1 + 1) [.slice none 0 0, .int .i64 0, .slice none 0 0, .int .i64 0, .bool false, .bool false, .int .i64 0, .slice none 0 0, .slice none 0 0, .int .i64 0] := hy.bx (Bx.hold hBres_0) (by first | omega | (simp; done) | (simp; omega))
    have hFres_1 : ∀ oo, w1.frozen? ⟨w.heap.size + 1 + 1, oo, none⟩ = false := fun oo => (hy.frozen (by first | omega | (simp; done) | (simp; omega))).trans ((fz_hold hFres_0) oo)
    try clear hBres_0 hFres_0
    have hM1 := (hM0.ext hy).same (m' := (mStop m k)) (mStop_same m k).1 (mStop_same m k).2.1 (mStop_same m k).2.2.1 (mStop_same m k).2.2.2
    clear hy hM0
    have yres : w.heap.size + 1 + 1 < w1.heap.size := by omega
    have xres0 := hBres_1 0 _ rfl
    have xres1 := hBres_1 1 _ rfl
    have xres2 := hBres_1 2 _ rfl
    have xres3 := hBres_1 3 _ rfl
    have xres4 := hBres_1 4 _ rfl
    have xres5 := hBres_1 5 _ rfl
    have xres6 := hBres_1 6 _ rfl
    have xres7 := hBres_1 7 _ rfl
    have xres8 := hBres_1 8 _ rfl
    have xres9 := hBres_1 9 _ rfl
    have fres := hFres_1
    go_wp2
    refine bodyPost_ret (v := .agg #[(.slice (some ⟨g1, o1, none⟩) 4 c1), .int .i64 ((mStop m k).pc), (.slice (some ⟨g2, o2, none⟩) 64 c2), .int .i64 ((mStop m k).save), .bool (mStop m k).lets, .bool (mStop m k).waits, .int .i64 ((mStop m k).halt), (.slice A3 m.ins.length c3), (.slice A4 m.outs.length c4), .int .i64 ((mStop m k).count)]) (by simp [results, Tryd.results110, go_sem, MchMach.next, MchMach.setR, xres0, xres1, xres2, xres3, xres4, xres5, xres6, xres7, xres8, xres9]) rfl ⟨_, _, by rw [HV.out], by rw [HV.out]; exact Mach.dropX (Mach.dropX (Mach.dropX (Mach.hold hM1))), Turn.hold ht1, fun q hq => .inl hq⟩
  · 
    have HV := hide (show (mDo m ⟨1, (D : Int), (a : Int), k⟩) = ((m.setR (D : Int) k).next (m.pc + 1)) by rfl)
    have ym : w.heap.size < w0.heap.size := by omega
    have xm0 := hBm_0 0 _ rfl
    have xm1 := hBm_0 1 _ rfl
    have xm2 := hBm_0 2 _ rfl
    have xm3 := hBm_0 3 _ rfl
    have xm4 := hBm_0 4 _ rfl
    have xm5 := hBm_0 5 _ rfl
    have xm6 := hBm_0 6 _ rfl
    have xm7 := hBm_0 7 _ rfl
    have xm8 := hBm_0 8 _ rfl
    have xm9 := hBm_0 9 _ rfl
    have fm := hFm_0
    have yi : w.heap.size + 1 < w0.heap.size := by omega
    have xi0 := hBi_0 0 _ rfl
    have xi1 := hBi_0 1 _ rfl
    have xi2 := hBi_0 2 _ rfl
    have xi3 := hBi_0 3 _ rfl
    have fi := hFi_0
    have yres : w.heap.size + 1 + 1 < w0.heap.size := by omega
    have xres0 := hBres_0 0 _ rfl
    have xres1 := hBres_0 1 _ rfl
    have xres2 := hBres_0 2 _ rfl
    have xres3 := hBres_0 3 _ rfl
    have xres4 := hBres_0 4 _ rfl
    have xres5 := hBres_0 5 _ rfl
    have xres6 := hBres_0 6 _ rfl
    have xres7 := hBres_0 7 _ rfl
    have xres8 := hBres_0 8 _ rfl
    have xres9 := hBres_0 9 _ rfl
    have fres := hFres_0
    go_wp2_with fail
    refine (l3Set_any m _ _ _ _ _ _ _ _ lo _ _ hM0 hk hc D hD k hk0 (by omega)).mono ?_
    rintro e w1 ⟨rfl, hM1, hy⟩
    clear xm0 xm1 xm2 xm3 xm4 xm5 xm6 xm7 xm8 xm9 ym
    clear fm
    clear xi0 xi1 xi2 xi3 yi
    clear fi
    clear xres0 xres1 xres2 xres3 xres4 xres5 xres6 xres7 xres8 xres9 yres
    clear fres
    have hs1 := hy.size
    try simp at hs1
    have ht1 : Turn (mfoot g1 g2 (.slice A4 m.outs.length c4)) w w1 := (Turn.hold ht0).trans hy (fun x hx => .inl (by unfold mfoot; simp at hx ⊢; simp [hx]))
    have hBres_1 : Bx w1 (w.heap.size + 1 + 1) [.slice none 0 0, .int .i64 0, .slice none 0 0, .int .i64 0, .bool false, .bool false, .int .i64 0, .slice none 0 0, .slice none 0 0, .int .i64 0] := hy.bx (Bx.hold hBres_0) (by first | omega | (simp; done) | (simp; omega)) (by simp; omega)
    have hFres_1 : ∀ oo, w1.frozen? ⟨w.heap.size + 1 + 1, oo, none⟩ = false := fun oo => (hy.frozen (by first | omega | (simp; done) | (simp; omega)) (by simp; omega)).trans ((fz_hold hFres_0) oo)
    try clear hBres_0 hFres_0
    have yres : w.heap.size + 1 + 1 < w1.heap.size := by omega
    have xres0 := hBres_1 0 _ rfl
    have xres1 := hBres_1 1 _ rfl
    have xres2 := hBres_1 2 _ rfl
    have xres3 := hBres_1 3 _ rfl
    have xres4 := hBres_1 4 _ rfl
    have xres5 := hBres_1 5 _ rfl
    have xres6 := hBres_1 6 _ rfl
    have xres7 := hBres_1 7 _ rfl
    have xres8 := hBres_1 8 _ rfl
    have xres9 := hBres_1 9 _ rfl
    have fres := hFres_1
    go_wp2
    refine bodyPost_ret (v := .agg #[(.slice (some ⟨g1, o1, none⟩) 4 c1), .int .i64 (((m.setR (D : Int) k).next (m.pc + 1)).pc), (.slice (some ⟨g2, o2, none⟩) 64 c2), .int .i64 (((m.setR (D : Int) k).next (m.pc + 1)).save), .bool ((m.setR (D : Int) k).next (m.pc + 1)).lets, .bool ((m.setR (D : Int) k).next (m.pc + 1)).waits, .int .i64 (((m.setR (D : Int) k).next (m.pc + 1)).halt), (.slice A3 m.ins.length c3), (.slice A4 m.outs.length c4), .int .i64 (((m.setR (D : Int) k).next (m.pc + 1)).count)]) (by simp [results, Tryd.results110, go_sem, MchMach.next, MchMach.setR, xres0, xres1, xres2, xres3, xres4, xres5, xres6, xres7, xres8, xres9]) rfl ⟨_, _, by rw [HV.out], by rw [HV.out]; exact Mach.dropX (Mach.dropX (Mach.dropX (Mach.hold hM1))), Turn.hold ht1, fun q hq => .inl hq⟩
  · 
    have HV := hide (show (mDo m ⟨2, (D : Int), (a : Int), k⟩) = ((m.setR (D : Int) (m.reg (a : Int))).next (m.pc + 1)) by rfl)
    have ym : w.heap.size < w0.heap.size := by omega
    have xm0 := hBm_0 0 _ rfl
    have xm1 := hBm_0 1 _ rfl
    have xm2 := hBm_0 2 _ rfl
    have xm3 := hBm_0 3 _ rfl
    have xm4 := hBm_0 4 _ rfl
    have xm5 := hBm_0 5 _ rfl
    have xm6 := hBm_0 6 _ rfl
    have xm7 := hBm_0 7 _ rfl
    have xm8 := hBm_0 8 _ rfl
    have xm9 := hBm_0 9 _ rfl
    have fm := hFm_0
    have yi : w.heap.size + 1 < w0.heap.size := by omega
    have xi0 := hBi_0 0 _ rfl
    have xi1 := hBi_0 1 _ rfl
    have xi2 := hBi_0 2 _ rfl
    have xi3 := hBi_0 3 _ rfl
    have fi := hFi_0
    have yres : w.heap.size + 1 + 1 < w0.heap.size := by omega
    have xres0 := hBres_0 0 _ rfl
    have xres1 := hBres_0 1 _ rfl
    have xres2 := hBres_0 2 _ rfl
    have xres3 := hBres_0 3 _ rfl
    have xres4 := hBres_0 4 _ rfl
    have xres5 := hBres_0 5 _ rfl
    have xres6 := hBres_0 6 _ rfl
    have xres7 := hBres_0 7 _ rfl
    have xres8 := hBres_0 8 _ rfl
    have xres9 := hBres_0 9 _ rfl
    have fres := hFres_0
    go_wp2_with fail
    refine (l3Set_any m _ _ _ _ _ _ _ _ lo _ _ hM0 hk hc D hD (m.reg (a : Int)) hb0 hb1).mono ?_
    rintro e w1 ⟨rfl, hM1, hy⟩
    clear xm0 xm1 xm2 xm3 xm4 xm5 xm6 xm7 xm8 xm9 ym
    clear fm
    clear xi0 xi1 xi2 xi3 yi
    clear fi
    clear xres0 xres1 xres2 xres3 xres4 xres5 xres6 xres7 xres8 xres9 yres
    clear fres
    have hs1 := hy.size
    try simp at hs1
    have ht1 : Turn (mfoot g1 g2 (.slice A4 m.outs.length c4)) w w1 := (Turn.hold ht0).trans hy (fun x hx => .inl (by unfold mfoot; simp at hx ⊢; simp [hx]))
    have hBres_1 : Bx w1 (w.heap.size + 1 + 1) [.slice none 0 0, .int .i64 0, .slice none 0 0, .int .i64 0, .bool false, .bool false, .int .i64 0, .slice none 0 0, .slice none 0 0, .int .i64 0] := hy.bx (Bx.hold hBres_0) (by first | omega | (simp; done) | (simp; omega)) (by simp; omega)
    have hFres_1 : ∀ oo, w1.frozen? ⟨w.heap.size + 1 + 1, oo, none⟩ = false := fun oo => (hy.frozen (by first | omega | (simp; done) | (simp; omega)) (by simp; omega)).trans ((fz_hold hFres_0) oo)
    try clear hBres_0 hFres_0
    have yres : w.heap.size + 1 + 1 < w1.heap.size := by omega
    have xres0 := hBres_1 0 _ rfl
    have xres1 := hBres_1 1 _ rfl
    have xres2 := hBres_1 2 _ rfl
    have xres3 := hBres_1 3 _ rfl
    have xres4 := hBres_1 4 _ rfl
    have xres5 := hBres_1 5 _ rfl
    have xres6 := hBres_1 6 _ rfl
    have xres7 := hBres_1 7 _ rfl
    have xres8 := hBres_1 8 _ rfl
    have xres9 := hBres_1 9 _ rfl
    have fres := hFres_1
    go_wp2
    refine bodyPost_ret (v := .agg #[(.slice (some ⟨g1, o1, none⟩) 4 c1), .int .i64 (((m.setR (D : Int) (m.reg (a : Int))).next (m.pc + 1)).pc), (.slice (some ⟨g2, o2, none⟩) 64 c2), .int .i64 (((m.setR (D : Int) (m.reg (a : Int))).next (m.pc + 1)).save), .bool ((m.setR (D : Int) (m.reg (a : Int))).next (m.pc + 1)).lets, .bool ((m.setR (D : Int) (m.reg (a : Int))).next (m.pc + 1)).waits, .int .i64 (((m.setR (D : Int) (m.reg (a : Int))).next (m.pc + 1)).halt), (.slice A3 m.ins.length c3), (.slice A4 m.outs.length c4), .int .i64 (((m.setR (D : Int) (m.reg (a : Int))).next (m.pc + 1)).count)]) (by simp [results, Tryd.results110, go_sem, MchMach.next, MchMach.setR, xres0, xres1, xres2, xres3, xres4, xres5, xres6, xres7, xres8, xres9]) rfl ⟨_, _, by rw [HV.out], by rw [HV.out]; exact Mach.dropX (Mach.dropX (Mach.dropX (Mach.hold hM1))), Turn.hold ht1, fun q hq => .inl hq⟩
  · 
    obtain ⟨k, rfl⟩ := Int.eq_ofNat_of_zero_le hk0
    have hdw := dbl_word hb0 hb1 k
    have HV := hide (show mDo m ⟨8, (D : Int), (a : Int), (k : Int)⟩ = ((m.setR (D : Int) (dbl (m.reg (a : Int)) k)).next (m.pc + 1)) from rfl)
    have ym : w.heap.size < w0.heap.size := by omega
    have xm0 := hBm_0 0 _ rfl
    have xm1 := hBm_0 1 _ rfl
    have xm2 := hBm_0 2 _ rfl
    have xm3 := hBm_0 3 _ rfl
    have xm4 := hBm_0 4 _ rfl
    have xm5 := hBm_0 5 _ rfl
    have xm6 := hBm_0 6 _ rfl
    have xm7 := hBm_0 7 _ rfl
    have xm8 := hBm_0 8 _ rfl
    have xm9 := hBm_0 9 _ rfl
    have fm := hFm_0
    have yi : w.heap.size + 1 < w0.heap.size := by omega
    have xi0 := hBi_0 0 _ rfl
    have xi1 := hBi_0 1 _ rfl
    have xi2 := hBi_0 2 _ rfl
    have xi3 := hBi_0 3 _ rfl
    have fi := hFi_0
    have yres : w.heap.size + 1 + 1 < w0.heap.size := by omega
    have xres0 := hBres_0 0 _ rfl
    have xres1 := hBres_0 1 _ rfl
    have xres2 := hBres_0 2 _ rfl
    have xres3 := hBres_0 3 _ rfl
    have xres4 := hBres_0 4 _ rfl
    have xres5 := hBres_0 5 _ rfl
    have xres6 := hBres_0 6 _ rfl
    have xres7 := hBres_0 7 _ rfl
    have xres8 := hBres_0 8 _ rfl
    have xres9 := hBres_0 9 _ rfl
    have fres := hFres_0
    go_upto_region 10 with fail
    have hS : ∀ w', Ext w0 w' → ∀ bb oo, bb < w0.heap.size → w'.cell? ⟨bb, oo, none⟩ = w0.cell? ⟨bb, oo, none⟩ := fun w' hx bb oo hb => hx.cell hb
    refine wp_region_plan (fun w' => Ext w0 w') 7 (.float 0 (.float 1 (.float 2 (.float 3 (.float 4 (.float 5 (.chain 6 (.tail 7)))))))) (by kernel_rfl) (by kernel_rfl) (Ext.refl _).drew ?_
    iterate 6 ((refine Plan.float_step (v := ?_) rfl (by rfl) (fun _ _ _ h => h) (fun w' hSw => ?_) ?_; rotate_left; · (go_simp; try with_reducible rfl)); (try simp only [Act.put, List.setIfInBounds_toArray, List.set_cons_zero, List.set_cons_succ]))
    refine Plan.chain_step rfl (fun K hK => ?_)
    go_simp
    refine (l3Shift_any _ k hb0 hb1 (by omega) _).mono ?_
    rintro e w1 ⟨rfl, rfl⟩
    refine hK.out _ _ Ext.auto ?_
    clear hK
    (try simp only [Act.put, List.setIfInBounds_toArray, List.set_cons_zero, List.set_cons_succ])
    refine Plan.tail_step ?_
    simp only [List.drop_succ_cons, List.drop_zero]
    clear hS
    go_wp2_with fail
    refine (l3Set_any m _ _ _ _ _ _ _ _ lo _ _ hM0.drew hk hc D hD _ hdw.1 hdw.2).mono ?_
    rintro e w1 ⟨rfl, hM1, hy⟩
    clear xm0 xm1 xm2 xm3 xm4 xm5 xm6 xm7 xm8 xm9 ym
    clear fm
    clear xi0 xi1 xi2 xi3 yi
    clear fi
    clear xres0 xres1 xres2 xres3 xres4 xres5 xres6 xres7 xres8 xres9 yres
    clear fres
    have hs1 := hy.size
    try simp at hs1
    have ht1 : Turn (mfoot g1 g2 (.slice A4 m.outs.length c4)) w w1 := (Turn.hold ht0).trans hy (fun x hx => .inl (by unfold mfoot; simp at hx ⊢; simp [hx]))
    have hBres_1 : Bx w1 (w.heap.size + 1 + 1) [.slice none 0 0, .int .i64 0, .slice none 0 0, .int .i64 0, .bool false, .bool false, .int .i64 0, .slice none 0 0, .slice none 0 0, .int .i64 0] := hy.bx (Bx.hold hBres_0) (by first | omega | (simp; done) | (simp; omega)) (by simp; omega)
    have hFres_1 : ∀ oo, w1.frozen? ⟨w.heap.size + 1 + 1, oo, none⟩ = false := fun oo => (hy.frozen (by first | omega | (simp; done) | (simp; omega)) (by simp; omega)).trans ((fz_hold hFres_0) oo)
    try clear hBres_0 hFres_0
    have yres : w.heap.size + 1 + 1 < w1.heap.size := by omega
    have xres0 := hBres_1 0 _ rfl
    have xres1 := hBres_1 1 _ rfl
    have xres2 := hBres_1 2 _ rfl
    have xres3 := hBres_1 3 _ rfl
    have xres4 := hBres_1 4 _ rfl
    have xres5 := hBres_1 5 _ rfl
    have xres6 := hBres_1 6 _ rfl
    have xres7 := hBres_1 7 _ rfl
    have xres8 := hBres_1 8 _ rfl
    have xres9 := hBres_1 9 _ rfl
    have fres := hFres_1
    go_wp2
    refine bodyPost_ret (v := .agg #[(.slice (some ⟨g1, o1, none⟩) 4 c1), .int .i64 (((m.setR (D : Int) (dbl (m.reg (a : Int)) k)).next (m.pc + 1)).pc), (.slice (some ⟨g2, o2, none⟩) 64 c2), .int .i64 (((m.setR (D : Int) (dbl (m.reg (a : Int)) k)).next (m.pc + 1)).save), .bool ((m.setR (D : Int) (dbl (m.reg (a : Int)) k)).next (m.pc + 1)).lets, .bool ((m.setR (D : Int) (dbl (m.reg (a : Int)) k)).next (m.pc + 1)).waits, .int .i64 (((m.setR (D : Int) (dbl (m.reg (a : Int)) k)).next (m.pc + 1)).halt), (.slice A3 m.ins.length c3), (.slice A4 m.outs.length c4), .int .i64 (((m.setR (D : Int) (dbl (m.reg (a : Int)) k)).next (m.pc + 1)).count)]) (by simp [results, Tryd.results110, go_sem, MchMach.next, MchMach.setR, xres0, xres1, xres2, xres3, xres4, xres5, xres6, xres7, xres8, xres9]) rfl ⟨_, _, by rw [HV.out], by rw [HV.out]; exact Mach.dropX (Mach.dropX (Mach.dropX (Mach.hold hM1))), Turn.hold ht1, fun q hq => .inl hq⟩
  · 
    have HV := hide (show (mDo m ⟨9, (D : Int), (a : Int), k⟩) = (mReach m ⟨9, (D : Int), (a : Int), k⟩) by rfl)
    have ym : w.heap.size < w0.heap.size := by omega
    have xm0 := hBm_0 0 _ rfl
    have xm1 := hBm_0 1 _ rfl
    have xm2 := hBm_0 2 _ rfl
    have xm3 := hBm_0 3 _ rfl
    have xm4 := hBm_0 4 _ rfl
    have xm5 := hBm_0 5 _ rfl
    have xm6 := hBm_0 6 _ rfl
    have xm7 := hBm_0 7 _ rfl
    have xm8 := hBm_0 8 _ rfl
    have xm9 := hBm_0 9 _ rfl
    have fm := hFm_0
    have yi : w.heap.size + 1 < w0.heap.size := by omega
    have xi0 := hBi_0 0 _ rfl
    have xi1 := hBi_0 1 _ rfl
    have xi2 := hBi_0 2 _ rfl
    have xi3 := hBi_0 3 _ rfl
    have fi := hFi_0
    have yres : w.heap.size + 1 + 1 < w0.heap.size := by omega
    have xres0 := hBres_0 0 _ rfl
    have xres1 := hBres_0 1 _ rfl
    have xres2 := hBres_0 2 _ rfl
    have xres3 := hBres_0 3 _ rfl
    have xres4 := hBres_0 4 _ rfl
    have xres5 := hBres_0 5 _ rfl
    have xres6 := hBres_0 6 _ rfl
    have xres7 := hBres_0 7 _ rfl
    have xres8 := hBres_0 8 _ rfl
    have xres9 := hBres_0 9 _ rfl
    have fres := hFres_0
    go_wp2_with fail
    refine (l3Reach_any m _ _ _ _ _ _ _ _ lo _ _ hM0 hk hc hn4 9 D a k hD ha hk0 hk1).mono ?_
    rintro e w1 ⟨v3', v4', rfl, hM1, hy, ho4⟩
    clear xm0 xm1 xm2 xm3 xm4 xm5 xm6 xm7 xm8 xm9 ym
    clear fm
    clear xi0 xi1 xi2 xi3 yi
    clear fi
    clear xres0 xres1 xres2 xres3 xres4 xres5 xres6 xres7 xres8 xres9 yres
    clear fres
    obtain ⟨A5, c5, rfl, -, -⟩ := hM1.form3
    obtain ⟨A6, c6, rfl, -, -⟩ := hM1.form4
    have hs1 := hy.size
    try simp at hs1
    have ht1 : Turn (mfoot g1 g2 (.slice A4 m.outs.length c4)) w w1 := (Turn.hold ht0).trans hy (fun x hx => .inl hx)
    have hBres_1 : Bx w1 (w.heap.size + 1 + 1) [.slice none 0 0, .int .i64 0, .slice none 0 0, .int .i64 0, .bool false, .bool false, .int .i64 0, .slice none 0 0, .slice none 0 0, .int .i64 0] := hy.bx (Bx.hold hBres_0) (by first | omega | (simp; done) | (simp; omega)) (fun hm => by have := hfoot _ hm; omega)
    have hFres_1 : ∀ oo, w1.frozen? ⟨w.heap.size + 1 + 1, oo, none⟩ = false := fun oo => (hy.frozen (by first | omega | (simp; done) | (simp; omega)) (fun hm => by have := hfoot _ hm; omega)).trans ((fz_hold hFres_0) oo)
    try clear hBres_0 hFres_0
    have yres : w.heap.size + 1 + 1 < w1.heap.size := by omega
    have xres0 := hBres_1 0 _ rfl
    have xres1 := hBres_1 1 _ rfl
    have xres2 := hBres_1 2 _ rfl
    have xres3 := hBres_1 3 _ rfl
    have xres4 := hBres_1 4 _ rfl
    have xres5 := hBres_1 5 _ rfl
    have xres6 := hBres_1 6 _ rfl
    have xres7 := hBres_1 7 _ rfl
    have xres8 := hBres_1 8 _ rfl
    have xres9 := hBres_1 9 _ rfl
    have fres := hFres_1
    go_wp2
    refine bodyPost_ret (v := .agg #[(.slice (some ⟨g1, o1, none⟩) 4 c1), .int .i64 ((mReach m ⟨9, (D : Int), (a : Int), k⟩).pc), (.slice (some ⟨g2, o2, none⟩) 64 c2), .int .i64 ((mReach m ⟨9, (D : Int), (a : Int), k⟩).save), .bool (mReach m ⟨9, (D : Int), (a : Int), k⟩).lets, .bool (mReach m ⟨9, (D : Int), (a : Int), k⟩).waits, .int .i64 ((mReach m ⟨9, (D : Int), (a : Int), k⟩).halt), (.slice A5 (mReach m ⟨9, (D : Int), (a : Int), k⟩).ins.length c5), (.slice A6 (mReach m ⟨9, (D : Int), (a : Int), k⟩).outs.length c6), .int .i64 ((mReach m ⟨9, (D : Int), (a : Int), k⟩).count)]) (by simp [results, Tryd.results110, go_sem, MchMach.next, MchMach.setR, xres0, xres1, xres2, xres3, xres4, xres5, xres6, xres7, xres8, xres9]) rfl ⟨_, _, by rw [HV.out], by rw [HV.out]; exact Mach.dropX (Mach.dropX (Mach.dropX (Mach.hold hM1))), Turn.hold ht1, fun q hq => (ho4 q hq).imp id (fun h => by omega)⟩
  · 
    have HV := hide (show (mDo m ⟨10, (D : Int), (a : Int), k⟩) = (mReach m ⟨10, (D : Int), (a : Int), k⟩) by rfl)
    have ym : w.heap.size < w0.heap.size := by omega
    have xm0 := hBm_0 0 _ rfl
    have xm1 := hBm_0 1 _ rfl
    have xm2 := hBm_0 2 _ rfl
    have xm3 := hBm_0 3 _ rfl
    have xm4 := hBm_0 4 _ rfl
    have xm5 := hBm_0 5 _ rfl
    have xm6 := hBm_0 6 _ rfl
    have xm7 := hBm_0 7 _ rfl
    have xm8 := hBm_0 8 _ rfl
    have xm9 := hBm_0 9 _ rfl
    have fm := hFm_0
    have yi : w.heap.size + 1 < w0.heap.size := by omega
    have xi0 := hBi_0 0 _ rfl
    have xi1 := hBi_0 1 _ rfl
    have xi2 := hBi_0 2 _ rfl
    have xi3 := hBi_0 3 _ rfl
    have fi := hFi_0
    have yres : w.heap.size + 1 + 1 < w0.heap.size := by omega
    have xres0 := hBres_0 0 _ rfl
    have xres1 := hBres_0 1 _ rfl
    have xres2 := hBres_0 2 _ rfl
    have xres3 := hBres_0 3 _ rfl
    have xres4 := hBres_0 4 _ rfl
    have xres5 := hBres_0 5 _ rfl
    have xres6 := hBres_0 6 _ rfl
    have xres7 := hBres_0 7 _ rfl
    have xres8 := hBres_0 8 _ rfl
    have xres9 := hBres_0 9 _ rfl
    have fres := hFres_0
    go_wp2_with fail
    refine (l3Reach_any m _ _ _ _ _ _ _ _ lo _ _ hM0 hk hc hn4 10 D a k hD ha hk0 hk1).mono ?_
    rintro e w1 ⟨v3', v4', rfl, hM1, hy, ho4⟩
    clear xm0 xm1 xm2 xm3 xm4 xm5 xm6 xm7 xm8 xm9 ym
    clear fm
    clear xi0 xi1 xi2 xi3 yi
    clear fi
    clear xres0 xres1 xres2 xres3 xres4 xres5 xres6 xres7 xres8 xres9 yres
    clear fres
    obtain ⟨A5, c5, rfl, -, -⟩ := hM1.form3
    obtain ⟨A6, c6, rfl, -, -⟩ := hM1.form4
    have hs1 := hy.size
    try simp at hs1
    have ht1 : Turn (mfoot g1 g2 (.slice A4 m.outs.length c4)) w w1 := (Turn.hold ht0).trans hy (fun x hx => .inl hx)
    have hBres_1 : Bx w1 (w.heap.size + 1 + 1) [.slice none 0 0, .int .i64 0, .slice none 0 0, .int .i64 0, .bool false, .bool false, .int .i64 0, .slice none 0 0, .slice none 0 0, .int .i64 0] := hy.bx (Bx.hold hBres_0) (by first | omega | (simp; done) | (simp; omega)) (fun hm => by have := hfoot _ hm; omega)
    have hFres_1 : ∀ oo, w1.frozen? ⟨w.heap.size + 1 + 1, oo, none⟩ = false := fun oo => (hy.frozen (by first | omega | (simp; done) | (simp; omega)) (fun hm => by have := hfoot _ hm; omega)).trans ((fz_hold hFres_0) oo)
    try clear hBres_0 hFres_0
    have yres : w.heap.size + 1 + 1 < w1.heap.size := by omega
    have xres0 := hBres_1 0 _ rfl
    have xres1 := hBres_1 1 _ rfl
    have xres2 := hBres_1 2 _ rfl
    have xres3 := hBres_1 3 _ rfl
    have xres4 := hBres_1 4 _ rfl
    have xres5 := hBres_1 5 _ rfl
    have xres6 := hBres_1 6 _ rfl
    have xres7 := hBres_1 7 _ rfl
    have xres8 := hBres_1 8 _ rfl
    have xres9 := hBres_1 9 _ rfl
    have fres := hFres_1
    go_wp2
    refine bodyPost_ret (v := .agg #[(.slice (some ⟨g1, o1, none⟩) 4 c1), .int .i64 ((mReach m ⟨10, (D : Int), (a : Int), k⟩).pc), (.slice (some ⟨g2, o2, none⟩) 64 c2), .int .i64 ((mReach m ⟨10, (D : Int), (a : Int), k⟩).save), .bool (mReach m ⟨10, (D : Int), (a : Int), k⟩).lets, .bool (mReach m ⟨10, (D : Int), (a : Int), k⟩).waits, .int .i64 ((mReach m ⟨10, (D : Int), (a : Int), k⟩).halt), (.slice A5 (mReach m ⟨10, (D : Int), (a : Int), k⟩).ins.length c5), (.slice A6 (mReach m ⟨10, (D : Int), (a : Int), k⟩).outs.length c6), .int .i64 ((mReach m ⟨10, (D : Int), (a : Int), k⟩).count)]) (by simp [results, Tryd.results110, go_sem, MchMach.next, MchMach.setR, xres0, xres1, xres2, xres3, xres4, xres5, xres6, xres7, xres8, xres9]) rfl ⟨_, _, by rw [HV.out], by rw [HV.out]; exact Mach.dropX (Mach.dropX (Mach.dropX (Mach.hold hM1))), Turn.hold ht1, fun q hq => (ho4 q hq).imp id (fun h => by omega)⟩
  · 
    by_cases hr : m.reg (D : Int) = m.reg (a : Int)
    · 
      have HV := hide (show (mDo m ⟨11, (D : Int), (a : Int), k⟩) = (m.next k) by show m.next (if _ then _ else _) = _; rw [if_pos hr])
      have q1 : (m.reg (D : Int) == m.reg (a : Int)) = true := by simp [hr]
      clear hr
      have ym : w.heap.size < w0.heap.size := by omega
      have xm0 := hBm_0 0 _ rfl
      have xm1 := hBm_0 1 _ rfl
      have xm2 := hBm_0 2 _ rfl
      have xm3 := hBm_0 3 _ rfl
      have xm4 := hBm_0 4 _ rfl
      have xm5 := hBm_0 5 _ rfl
      have xm6 := hBm_0 6 _ rfl
      have xm7 := hBm_0 7 _ rfl
      have xm8 := hBm_0 8 _ rfl
      have xm9 := hBm_0 9 _ rfl
      have fm := hFm_0
      have yi : w.heap.size + 1 < w0.heap.size := by omega
      have xi0 := hBi_0 0 _ rfl
      have xi1 := hBi_0 1 _ rfl
      have xi2 := hBi_0 2 _ rfl
      have xi3 := hBi_0 3 _ rfl
      have fi := hFi_0
      have yres : w.heap.size + 1 + 1 < w0.heap.size := by omega
      have xres0 := hBres_0 0 _ rfl
      have xres1 := hBres_0 1 _ rfl
      have xres2 := hBres_0 2 _ rfl
      have xres3 := hBres_0 3 _ rfl
      have xres4 := hBres_0 4 _ rfl
      have xres5 := hBres_0 5 _ rfl
      have xres6 := hBres_0 6 _ rfl
      have xres7 := hBres_0 7 _ rfl
      have xres8 := hBres_0 8 _ rfl
      have xres9 := hBres_0 9 _ rfl
      have fres := hFres_0
      go_wp2_with fail
      refine (l3Next_any m k (by omega) (by omega) hc0 (by omega) _ _ _ _ _ _ _ _ _ _ _ _ _).mono ?_
      rintro e w1 ⟨rfl, hy⟩
      clear xm0 xm1 xm2 xm3 xm4 xm5 xm6 xm7 xm8 xm9 ym
      clear fm
      clear xi0 xi1 xi2 xi3 yi
      clear fi
      clear xres0 xres1 xres2 xres3 xres4 xres5 xres6 xres7 xres8 xres9 yres
      clear fres
      have hs1 := hy.size
      try simp at hs1
      have ht1 : Turn (mfoot g1 g2 (.slice A4 m.outs.length c4)) w w1 := (Turn.hold ht0).call hy
      have hBres_1 : Bx w1 (w.heap.size + 1 + 1) [.slice none 0 0, .int .i64 0, .slice none 0 0, .int .i64 0, .bool false, .bool false, .int .i64 0, .slice none 0 0, .slice none 0 0, .int .i64 0] := hy.bx (Bx.hold hBres_0) (by first | omega | (simp; done) | (simp; omega))
      have hFres_1 : ∀ oo, w1.frozen? ⟨w.heap.size + 1 + 1, oo, none⟩ = false := fun oo => (hy.frozen (by first | omega | (simp; done) | (simp; omega))).trans ((fz_hold hFres_0) oo)
      try clear hBres_0 hFres_0
      have hM1 := (hM0.ext hy).same (m' := (m.next k)) rfl rfl rfl rfl
      clear hy hM0
      have yres : w.heap.size + 1 + 1 < w1.heap.size := by omega
      have xres0 := hBres_1 0 _ rfl
      have xres1 := hBres_1 1 _ rfl
      have xres2 := hBres_1 2 _ rfl
      have xres3 := hBres_1 3 _ rfl
      have xres4 := hBres_1 4 _ rfl
      have xres5 := hBres_1 5 _ rfl
      have xres6 := hBres_1 6 _ rfl
      have xres7 := hBres_1 7 _ rfl
      have xres8 := hBres_1 8 _ rfl
      have xres9 := hBres_1 9 _ rfl
      have fres := hFres_1
      go_wp2
      refine bodyPost_ret (v := .agg #[(.slice (some ⟨g1, o1, none⟩) 4 c1), .int .i64 ((m.next k).pc), (.slice (some ⟨g2, o2, none⟩) 64 c2), .int .i64 ((m.next k).save), .bool (m.next k).lets, .bool (m.next k).waits, .int .i64 ((m.next k).halt), (.slice A3 m.ins.length c3), (.slice A4 m.outs.length c4), .int .i64 ((m.next k).count)]) (by simp [results, Tryd.results110, go_sem, MchMach.next, MchMach.setR, xres0, xres1, xres2, xres3, xres4, xres5, xres6, xres7, xres8, xres9]) rfl ⟨_, _, by rw [HV.out], by rw [HV.out]; exact Mach.dropX (Mach.dropX (Mach.dropX (Mach.hold hM1))), Turn.hold ht1, fun q hq => .inl hq⟩
    · 
      have HV := hide (show (mDo m ⟨11, (D : Int), (a : Int), k⟩) = (m.next (m.pc + 1)) by show m.next (if _ then _ else _) = _; rw [if_neg hr])
      have q1 : (m.reg (D : Int) == m.reg (a : Int)) = false := by simp [hr]
      clear hr
      have ym : w.heap.size < w0.heap.size := by omega
      have xm0 := hBm_0 0 _ rfl
      have xm1 := hBm_0 1 _ rfl
      have xm2 := hBm_0 2 _ rfl
      have xm3 := hBm_0 3 _ rfl
      have xm4 := hBm_0 4 _ rfl
      have xm5 := hBm_0 5 _ rfl
      have xm6 := hBm_0 6 _ rfl
      have xm7 := hBm_0 7 _ rfl
      have xm8 := hBm_0 8 _ rfl
      have xm9 := hBm_0 9 _ rfl
      have fm := hFm_0
      have yi : w.heap.size + 1 < w0.heap.size := by omega
      have xi0 := hBi_0 0 _ rfl
      have xi1 := hBi_0 1 _ rfl
      have xi2 := hBi_0 2 _ rfl
      have xi3 := hBi_0 3 _ rfl
      have fi := hFi_0
      have yres : w.heap.size + 1 + 1 < w0.heap.size := by omega
      have xres0 := hBres_0 0 _ rfl
      have xres1 := hBres_0 1 _ rfl
      have xres2 := hBres_0 2 _ rfl
      have xres3 := hBres_0 3 _ rfl
      have xres4 := hBres_0 4 _ rfl
      have xres5 := hBres_0 5 _ rfl
      have xres6 := hBres_0 6 _ rfl
      have xres7 := hBres_0 7 _ rfl
      have xres8 := hBres_0 8 _ rfl
      have xres9 := hBres_0 9 _ rfl
      have fres := hFres_0
      go_wp2_with fail
      refine (l3Next_any m (m.pc + 1) (by omega) (by omega) hc0 (by omega) _ _ _ _ _ _ _ _ _ _ _ _ _).mono ?_
      rintro e w1 ⟨rfl, hy⟩
      clear xm0 xm1 xm2 xm3 xm4 xm5 xm6 xm7 xm8 xm9 ym
      clear fm
      clear xi0 xi1 xi2 xi3 yi
      clear fi
      clear xres0 xres1 xres2 xres3 xres4 xres5 xres6 xres7 xres8 xres9 yres
      clear fres
      have hs1 := hy.size
      try simp at hs1
      have ht1 : Turn (mfoot g1 g2 (.slice A4 m.outs.length c4)) w w1 := (Turn.hold ht0).call hy
      have hBres_1 : Bx w1 (w.heap.size + 1 + 1) [.slice none 0 0, .int .i64 0, .slice none 0 0, .int .i64 0, .bool false, .bool false, .int .i64 0, .slice none 0 0, .slice none 0 0, .int .i64 0] := hy.bx (Bx.hold hBres_0) (by first | omega | (simp; done) | (simp; omega))
      have hFres_1 : ∀ oo, w1.frozen? ⟨w.heap.size + 1 + 1, oo, none⟩ = false := fun oo => (hy.frozen (by first | omega | (simp; done) | (simp; omega))).trans ((fz_hold hFres_0) oo)
      try clear hBres_0 hFres_0
      have hM1 := (hM0.ext hy).same (m' := (m.next (m.pc + 1))) rfl rfl rfl rfl
      clear hy hM0
      have yres : w.heap.size + 1 + 1 < w1.heap.size := by omega
      have xres0 := hBres_1 0 _ rfl
      have xres1 := hBres_1 1 _ rfl
      have xres2 := hBres_1 2 _ rfl
      have xres3 := hBres_1 3 _ rfl
      have xres4 := hBres_1 4 _ rfl
      have xres5 := hBres_1 5 _ rfl
      have xres6 := hBres_1 6 _ rfl
      have xres7 := hBres_1 7 _ rfl
      have xres8 := hBres_1 8 _ rfl
      have xres9 := hBres_1 9 _ rfl
      have fres := hFres_1
      go_wp2
      refine bodyPost_ret (v := .agg #[(.slice (some ⟨g1, o1, none⟩) 4 c1), .int .i64 ((m.next (m.pc + 1)).pc), (.slice (some ⟨g2, o2, none⟩) 64 c2), .int .i64 ((m.next (m.pc + 1)).save), .bool (m.next (m.pc + 1)).lets, .bool (m.next (m.pc + 1)).waits, .int .i64 ((m.next (m.pc + 1)).halt), (.slice A3 m.ins.length c3), (.slice A4 m.outs.length c4), .int .i64 ((m.next (m.pc + 1)).count)]) (by simp [results, Tryd.results110, go_sem, MchMach.next, MchMach.setR, xres0, xres1, xres2, xres3, xres4, xres5, xres6, xres7, xres8, xres9]) rfl ⟨_, _, by rw [HV.out], by rw [HV.out]; exact Mach.dropX (Mach.dropX (Mach.dropX (Mach.hold hM1))), Turn.hold ht1, fun q hq => .inl hq⟩
  · 
    by_cases hr : m.reg (D : Int) < m.reg (a : Int)
    · 
      have HV := hide (show (mDo m ⟨12, (D : Int), (a : Int), k⟩) = (m.next k) by show m.next (if _ then _ else _) = _; rw [if_pos hr])
      have q1 : decide (m.reg (D : Int) < m.reg (a : Int)) = true := by simp [hr]
      have ym : w.heap.size < w0.heap.size := by omega
      have xm0 := hBm_0 0 _ rfl
      have xm1 := hBm_0 1 _ rfl
      have xm2 := hBm_0 2 _ rfl
      have xm3 := hBm_0 3 _ rfl
      have xm4 := hBm_0 4 _ rfl
      have xm5 := hBm_0 5 _ rfl
      have xm6 := hBm_0 6 _ rfl
      have xm7 := hBm_0 7 _ rfl
      have xm8 := hBm_0 8 _ rfl
      have xm9 := hBm_0 9 _ rfl
      have fm := hFm_0
      have yi : w.heap.size + 1 < w0.heap.size := by omega
      have xi0 := hBi_0 0 _ rfl
      have xi1 := hBi_0 1 _ rfl
      have xi2 := hBi_0 2 _ rfl
      have xi3 := hBi_0 3 _ rfl
      have fi := hFi_0
      have yres : w.heap.size + 1 + 1 < w0.heap.size := by omega
      have xres0 := hBres_0 0 _ rfl
      have xres1 := hBres_0 1 _ rfl
      have xres2 := hBres_0 2 _ rfl
      have xres3 := hBres_0 3 _ rfl
      have xres4 := hBres_0 4 _ rfl
      have xres5 := hBres_0 5 _ rfl
      have xres6 := hBres_0 6 _ rfl
      have xres7 := hBres_0 7 _ rfl
      have xres8 := hBres_0 8 _ rfl
      have xres9 := hBres_0 9 _ rfl
      have fres := hFres_0
      go_wp2_with fail
      refine (l3Next_any m k (by omega) (by omega) hc0 (by omega) _ _ _ _ _ _ _ _ _ _ _ _ _).mono ?_
      rintro e w1 ⟨rfl, hy⟩
      clear xm0 xm1 xm2 xm3 xm4 xm5 xm6 xm7 xm8 xm9 ym
      clear fm
      clear xi0 xi1 xi2 xi3 yi
      clear fi
      clear xres0 xres1 xres2 xres3 xres4 xres5 xres6 xres7 xres8 xres9 yres
      clear fres
      have hs1 := hy.size
      try simp at hs1
      have ht1 : Turn (mfoot g1 g2 (.slice A4 m.outs.length c4)) w w1 := (Turn.hold ht0).call hy
      have hBres_1 : Bx w1 (w.heap.size + 1 + 1) [.slice none 0 0, .int .i64 0, .slice none 0 0, .int .i64 0, .bool false, .bool false, .int .i64 0, .slice none 0 0, .slice none 0 0, .int .i64 0] := hy.bx (Bx.hold hBres_0) (by first | omega | (simp; done) | (simp; omega))
      have hFres_1 : ∀ oo, w1.frozen? ⟨w.heap.size + 1 + 1, oo, none⟩ = false := fun oo => (hy.frozen (by first | omega | (simp; done) | (simp; omega))).trans ((fz_hold hFres_0) oo)
      try clear hBres_0 hFres_0
      have hM1 := (hM0.ext hy).same (m' := (m.next k)) rfl rfl rfl rfl
      clear hy hM0
      have yres : w.heap.size + 1 + 1 < w1.heap.size := by omega
      have xres0 := hBres_1 0 _ rfl
      have xres1 := hBres_1 1 _ rfl
      have xres2 := hBres_1 2 _ rfl
      have xres3 := hBres_1 3 _ rfl
      have xres4 := hBres_1 4 _ rfl
      have xres5 := hBres_1 5 _ rfl
      have xres6 := hBres_1 6 _ rfl
      have xres7 := hBres_1 7 _ rfl
      have xres8 := hBres_1 8 _ rfl
      have xres9 := hBres_1 9 _ rfl
      have fres := hFres_1
      go_wp2
      refine bodyPost_ret (v := .agg #[(.slice (some ⟨g1, o1, none⟩) 4 c1), .int .i64 ((m.next k).pc), (.slice (some ⟨g2, o2, none⟩) 64 c2), .int .i64 ((m.next k).save), .bool (m.next k).lets, .bool (m.next k).waits, .int .i64 ((m.next k).halt), (.slice A3 m.ins.length c3), (.slice A4 m.outs.length c4), .int .i64 ((m.next k).count)]) (by simp [results, Tryd.results110, go_sem, MchMach.next, MchMach.setR, xres0, xres1, xres2, xres3, xres4, xres5, xres6, xres7, xres8, xres9]) rfl ⟨_, _, by rw [HV.out], by rw [HV.out]; exact Mach.dropX (Mach.dropX (Mach.dropX (Mach.hold hM1))), Turn.hold ht1, fun q hq => .inl hq⟩
    · 
      have HV := hide (show (mDo m ⟨12, (D : Int), (a : Int), k⟩) = (m.next (m.pc + 1)) by show m.next (if _ then _ else _) = _; rw [if_neg hr])
      have q1 : decide (m.reg (D : Int) < m.reg (a : Int)) = false := by simp [hr]
      have ym : w.heap.size < w0.heap.size := by omega
      have xm0 := hBm_0 0 _ rfl
      have xm1 := hBm_0 1 _ rfl
      have xm2 := hBm_0 2 _ rfl
      have xm3 := hBm_0 3 _ rfl
      have xm4 := hBm_0 4 _ rfl
      have xm5 := hBm_0 5 _ rfl
      have xm6 := hBm_0 6 _ rfl
      have xm7 := hBm_0 7 _ rfl
      have xm8 := hBm_0 8 _ rfl
      have xm9 := hBm_0 9 _ rfl
      have fm := hFm_0
      have yi : w.heap.size + 1 < w0.heap.size := by omega
      have xi0 := hBi_0 0 _ rfl
      have xi1 := hBi_0 1 _ rfl
      have xi2 := hBi_0 2 _ rfl
      have xi3 := hBi_0 3 _ rfl
      have fi := hFi_0
      have yres : w.heap.size + 1 + 1 < w0.heap.size := by omega
      have xres0 := hBres_0 0 _ rfl
      have xres1 := hBres_0 1 _ rfl
      have xres2 := hBres_0 2 _ rfl
      have xres3 := hBres_0 3 _ rfl
      have xres4 := hBres_0 4 _ rfl
      have xres5 := hBres_0 5 _ rfl
      have xres6 := hBres_0 6 _ rfl
      have xres7 := hBres_0 7 _ rfl
      have xres8 := hBres_0 8 _ rfl
      have xres9 := hBres_0 9 _ rfl
      have fres := hFres_0
      go_wp2_with fail
      refine (l3Next_any m (m.pc + 1) (by omega) (by omega) hc0 (by omega) _ _ _ _ _ _ _ _ _ _ _ _ _).mono ?_
      rintro e w1 ⟨rfl, hy⟩
      clear xm0 xm1 xm2 xm3 xm4 xm5 xm6 xm7 xm8 xm9 ym
      clear fm
      clear xi0 xi1 xi2 xi3 yi
      clear fi
      clear xres0 xres1 xres2 xres3 xres4 xres5 xres6 xres7 xres8 xres9 yres
      clear fres
      have hs1 := hy.size
      try simp at hs1
      have ht1 : Turn (mfoot g1 g2 (.slice A4 m.outs.length c4)) w w1 := (Turn.hold ht0).call hy
      have hBres_1 : Bx w1 (w.heap.size + 1 + 1) [.slice none 0 0, .int .i64 0, .slice none 0 0, .int .i64 0, .bool false, .bool false, .int .i64 0, .slice none 0 0, .slice none 0 0, .int .i64 0] := hy.bx (Bx.hold hBres_0) (by first | omega | (simp; done) | (simp; omega))
      have hFres_1 : ∀ oo, w1.frozen? ⟨w.heap.size + 1 + 1, oo, none⟩ = false := fun oo => (hy.frozen (by first | omega | (simp; done) | (simp; omega))).trans ((fz_hold hFres_0) oo)
      try clear hBres_0 hFres_0
      have hM1 := (hM0.ext hy).same (m' := (m.next (m.pc + 1))) rfl rfl rfl rfl
      clear hy hM0
      have yres : w.heap.size + 1 + 1 < w1.heap.size := by omega
      have xres0 := hBres_1 0 _ rfl
      have xres1 := hBres_1 1 _ rfl
      have xres2 := hBres_1 2 _ rfl
      have xres3 := hBres_1 3 _ rfl
      have xres4 := hBres_1 4 _ rfl
      have xres5 := hBres_1 5 _ rfl
      have xres6 := hBres_1 6 _ rfl
      have xres7 := hBres_1 7 _ rfl
      have xres8 := hBres_1 8 _ rfl
      have xres9 := hBres_1 9 _ rfl
      have fres := hFres_1
      go_wp2
      refine bodyPost_ret (v := .agg #[(.slice (some ⟨g1, o1, none⟩) 4 c1), .int .i64 ((m.next (m.pc + 1)).pc), (.slice (some ⟨g2, o2, none⟩) 64 c2), .int .i64 ((m.next (m.pc + 1)).save), .bool (m.next (m.pc + 1)).lets, .bool (m.next (m.pc + 1)).waits, .int .i64 ((m.next (m.pc + 1)).halt), (.slice A3 m.ins.length c3), (.slice A4 m.outs.length c4), .int .i64 ((m.next (m.pc + 1)).count)]) (by simp [results, Tryd.results110, go_sem, MchMach.next, MchMach.setR, xres0, xres1, xres2, xres3, xres4, xres5, xres6, xres7, xres8, xres9]) rfl ⟨_, _, by rw [HV.out], by rw [HV.out]; exact Mach.dropX (Mach.dropX (Mach.dropX (Mach.hold hM1))), Turn.hold ht1, fun q hq => .inl hq⟩
  · 
    have HV := hide (show (mDo m ⟨13, (D : Int), (a : Int), k⟩) = (m.next (m.reg (a : Int))) by rfl)
    have ym : w.heap.size < w0.heap.size := by omega
    have xm0 := hBm_0 0 _ rfl
    have xm1 := hBm_0 1 _ rfl
    have xm2 := hBm_0 2 _ rfl
    have xm3 := hBm_0 3 _ rfl
    have xm4 := hBm_0 4 _ rfl
    have xm5 := hBm_0 5 _ rfl
    have xm6 := hBm_0 6 _ rfl
    have xm7 := hBm_0 7 _ rfl
    have xm8 := hBm_0 8 _ rfl
    have xm9 := hBm_0 9 _ rfl
    have fm := hFm_0
    have yi : w.heap.size + 1 < w0.heap.size := by omega
    have xi0 := hBi_0 0 _ rfl
    have xi1 := hBi_0 1 _ rfl
    have xi2 := hBi_0 2 _ rfl
    have xi3 := hBi_0 3 _ rfl
    have fi := hFi_0
    have yres : w.heap.size + 1 + 1 < w0.heap.size := by omega
    have xres0 := hBres_0 0 _ rfl
    have xres1 := hBres_0 1 _ rfl
    have xres2 := hBres_0 2 _ rfl
    have xres3 := hBres_0 3 _ rfl
    have xres4 := hBres_0 4 _ rfl
    have xres5 := hBres_0 5 _ rfl
    have xres6 := hBres_0 6 _ rfl
    have xres7 := hBres_0 7 _ rfl
    have xres8 := hBres_0 8 _ rfl
    have xres9 := hBres_0 9 _ rfl
    have fres := hFres_0
    go_wp2_with fail
    refine (l3Next_any m (m.reg (a : Int)) hb0 (by omega) hc0 (by omega) _ _ _ _ _ _ _ _ _ _ _ _ _).mono ?_
    rintro e w1 ⟨rfl, hy⟩
    clear xm0 xm1 xm2 xm3 xm4 xm5 xm6 xm7 xm8 xm9 ym
    clear fm
    clear xi0 xi1 xi2 xi3 yi
    clear fi
    clear xres0 xres1 xres2 xres3 xres4 xres5 xres6 xres7 xres8 xres9 yres
    clear fres
    have hs1 := hy.size
    try simp at hs1
    have ht1 : Turn (mfoot g1 g2 (.slice A4 m.outs.length c4)) w w1 := (Turn.hold ht0).call hy
    have hBres_1 : Bx w1 (w.heap.size + 1 + 1) [.slice none 0 0, .int .i64 0, .slice none 0 0, .int .i64 0, .bool false, .bool false, .int .i64 0, .slice none 0 0, .slice none 0 0, .int .i64 0] := hy.bx (Bx.hold hBres_0) (by first | omega | (simp; done) | (simp; omega))
    have hFres_1 : ∀ oo, w1.frozen? ⟨w.heap.size + 1 + 1, oo, none⟩ = false := fun oo => (hy.frozen (by first | omega | (simp; done) | (simp; omega))).trans ((fz_hold hFres_0) oo)
    try clear hBres_0 hFres_0
    have hM1 := (hM0.ext hy).same (m' := (m.next (m.reg (a : Int)))) rfl rfl rfl rfl
    clear hy hM0
    have yres : w.heap.size + 1 + 1 < w1.heap.size := by omega
    have xres0 := hBres_1 0 _ rfl
    have xres1 := hBres_1 1 _ rfl
    have xres2 := hBres_1 2 _ rfl
    have xres3 := hBres_1 3 _ rfl
    have xres4 := hBres_1 4 _ rfl
    have xres5 := hBres_1 5 _ rfl
    have xres6 := hBres_1 6 _ rfl
    have xres7 := hBres_1 7 _ rfl
    have xres8 := hBres_1 8 _ rfl
    have xres9 := hBres_1 9 _ rfl
    have fres := hFres_1
    go_wp2
    refine bodyPost_ret (v := .agg #[(.slice (some ⟨g1, o1, none⟩) 4 c1), .int .i64 ((m.next (m.reg (a : Int))).pc), (.slice (some ⟨g2, o2, none⟩) 64 c2), .int .i64 ((m.next (m.reg (a : Int))).save), .bool (m.next (m.reg (a : Int))).lets, .bool (m.next (m.reg (a : Int))).waits, .int .i64 ((m.next (m.reg (a : Int))).halt), (.slice A3 m.ins.length c3), (.slice A4 m.outs.length c4), .int .i64 ((m.next (m.reg (a : Int))).count)]) (by simp [results, Tryd.results110, go_sem, MchMach.next, MchMach.setR, xres0, xres1, xres2, xres3, xres4, xres5, xres6, xres7, xres8, xres9]) rfl ⟨_, _, by rw [HV.out], by rw [HV.out]; exact Mach.dropX (Mach.dropX (Mach.dropX (Mach.hold hM1))), Turn.hold ht1, fun q hq => .inl hq⟩
  · 
    have HV := hide (show (mDo m ⟨14, (D : Int), (a : Int), k⟩) = (mPort m ⟨14, (D : Int), (a : Int), k⟩) by rfl)
    have ym : w.heap.size < w0.heap.size := by omega
    have xm0 := hBm_0 0 _ rfl
    have xm1 := hBm_0 1 _ rfl
    have xm2 := hBm_0 2 _ rfl
    have xm3 := hBm_0 3 _ rfl
    have xm4 := hBm_0 4 _ rfl
    have xm5 := hBm_0 5 _ rfl
    have xm6 := hBm_0 6 _ rfl
    have xm7 := hBm_0 7 _ rfl
    have xm8 := hBm_0 8 _ rfl
    have xm9 := hBm_0 9 _ rfl
    have fm := hFm_0
    have yi : w.heap.size + 1 < w0.heap.size := by omega
    have xi0 := hBi_0 0 _ rfl
    have xi1 := hBi_0 1 _ rfl
    have xi2 := hBi_0 2 _ rfl
    have xi3 := hBi_0 3 _ rfl
    have fi := hFi_0
    have yres : w.heap.size + 1 + 1 < w0.heap.size := by omega
    have xres0 := hBres_0 0 _ rfl
    have xres1 := hBres_0 1 _ rfl
    have xres2 := hBres_0 2 _ rfl
    have xres3 := hBres_0 3 _ rfl
    have xres4 := hBres_0 4 _ rfl
    have xres5 := hBres_0 5 _ rfl
    have xres6 := hBres_0 6 _ rfl
    have xres7 := hBres_0 7 _ rfl
    have xres8 := hBres_0 8 _ rfl
    have xres9 := hBres_0 9 _ rfl
    have fres := hFres_0
    go_wp2_with fail
    refine (l3Port_any m _ _ _ _ _ _ _ _ lo _ _ hM0 hk hc hn4 14 D (a : Int) k hD).mono ?_
    rintro e w1 ⟨v3', v4', rfl, hM1, hy, ho4⟩
    clear xm0 xm1 xm2 xm3 xm4 xm5 xm6 xm7 xm8 xm9 ym
    clear fm
    clear xi0 xi1 xi2 xi3 yi
    clear fi
    clear xres0 xres1 xres2 xres3 xres4 xres5 xres6 xres7 xres8 xres9 yres
    clear fres
    obtain ⟨A5, c5, rfl, -, -⟩ := hM1.form3
    obtain ⟨A6, c6, rfl, -, -⟩ := hM1.form4
    have hs1 := hy.size
    try simp at hs1
    have ht1 : Turn (mfoot g1 g2 (.slice A4 m.outs.length c4)) w w1 := (Turn.hold ht0).trans hy (fun x hx => .inl hx)
    have hBres_1 : Bx w1 (w.heap.size + 1 + 1) [.slice none 0 0, .int .i64 0, .slice none 0 0, .int .i64 0, .bool false, .bool false, .int .i64 0, .slice none 0 0, .slice none 0 0, .int .i64 0] := hy.bx (Bx.hold hBres_0) (by first | omega | (simp; done) | (simp; omega)) (fun hm => by have := hfoot _ hm; omega)
    have hFres_1 : ∀ oo, w1.frozen? ⟨w.heap.size + 1 + 1, oo, none⟩ = false := fun oo => (hy.frozen (by first | omega | (simp; done) | (simp; omega)) (fun hm => by have := hfoot _ hm; omega)).trans ((fz_hold hFres_0) oo)
    try clear hBres_0 hFres_0
    have yres : w.heap.size + 1 + 1 < w1.heap.size := by omega
    have xres0 := hBres_1 0 _ rfl
    have xres1 := hBres_1 1 _ rfl
    have xres2 := hBres_1 2 _ rfl
    have xres3 := hBres_1 3 _ rfl
    have xres4 := hBres_1 4 _ rfl
    have xres5 := hBres_1 5 _ rfl
    have xres6 := hBres_1 6 _ rfl
    have xres7 := hBres_1 7 _ rfl
    have xres8 := hBres_1 8 _ rfl
    have xres9 := hBres_1 9 _ rfl
    have fres := hFres_1
    go_wp2
    refine bodyPost_ret (v := .agg #[(.slice (some ⟨g1, o1, none⟩) 4 c1), .int .i64 ((mPort m ⟨14, (D : Int), (a : Int), k⟩).pc), (.slice (some ⟨g2, o2, none⟩) 64 c2), .int .i64 ((mPort m ⟨14, (D : Int), (a : Int), k⟩).save), .bool (mPort m ⟨14, (D : Int), (a : Int), k⟩).lets, .bool (mPort m ⟨14, (D : Int), (a : Int), k⟩).waits, .int .i64 ((mPort m ⟨14, (D : Int), (a : Int), k⟩).halt), (.slice A5 (mPort m ⟨14, (D : Int), (a : Int), k⟩).ins.length c5), (.slice A6 (mPort m ⟨14, (D : Int), (a : Int), k⟩).outs.length c6), .int .i64 ((mPort m ⟨14, (D : Int), (a : Int), k⟩).count)]) (by simp [results, Tryd.results110, go_sem, MchMach.next, MchMach.setR, xres0, xres1, xres2, xres3, xres4, xres5, xres6, xres7, xres8, xres9]) rfl ⟨_, _, by rw [HV.out], by rw [HV.out]; exact Mach.dropX (Mach.dropX (Mach.dropX (Mach.hold hM1))), Turn.hold ht1, fun q hq => (ho4 q hq).imp id (fun h => by omega)⟩
  · 
    have HV := hide (show (mDo m ⟨15, (D : Int), (a : Int), k⟩) = (mPort m ⟨15, (D : Int), (a : Int), k⟩) by rfl)
    have ym : w.heap.size < w0.heap.size := by omega
    have xm0 := hBm_0 0 _ rfl
    have xm1 := hBm_0 1 _ rfl
    have xm2 := hBm_0 2 _ rfl
    have xm3 := hBm_0 3 _ rfl
    have xm4 := hBm_0 4 _ rfl
    have xm5 := hBm_0 5 _ rfl
    have xm6 := hBm_0 6 _ rfl
    have xm7 := hBm_0 7 _ rfl
    have xm8 := hBm_0 8 _ rfl
    have xm9 := hBm_0 9 _ rfl
    have fm := hFm_0
    have yi : w.heap.size + 1 < w0.heap.size := by omega
    have xi0 := hBi_0 0 _ rfl
    have xi1 := hBi_0 1 _ rfl
    have xi2 := hBi_0 2 _ rfl
    have xi3 := hBi_0 3 _ rfl
    have fi := hFi_0
    have yres : w.heap.size + 1 + 1 < w0.heap.size := by omega
    have xres0 := hBres_0 0 _ rfl
    have xres1 := hBres_0 1 _ rfl
    have xres2 := hBres_0 2 _ rfl
    have xres3 := hBres_0 3 _ rfl
    have xres4 := hBres_0 4 _ rfl
    have xres5 := hBres_0 5 _ rfl
    have xres6 := hBres_0 6 _ rfl
    have xres7 := hBres_0 7 _ rfl
    have xres8 := hBres_0 8 _ rfl
    have xres9 := hBres_0 9 _ rfl
    have fres := hFres_0
    go_wp2_with fail
    refine (l3Port_any m _ _ _ _ _ _ _ _ lo _ _ hM0 hk hc hn4 15 D (a : Int) k hD).mono ?_
    rintro e w1 ⟨v3', v4', rfl, hM1, hy, ho4⟩
    clear xm0 xm1 xm2 xm3 xm4 xm5 xm6 xm7 xm8 xm9 ym
    clear fm
    clear xi0 xi1 xi2 xi3 yi
    clear fi
    clear xres0 xres1 xres2 xres3 xres4 xres5 xres6 xres7 xres8 xres9 yres
    clear fres
    obtain ⟨A5, c5, rfl, -, -⟩ := hM1.form3
    obtain ⟨A6, c6, rfl, -, -⟩ := hM1.form4
    have hs1 := hy.size
    try simp at hs1
    have ht1 : Turn (mfoot g1 g2 (.slice A4 m.outs.length c4)) w w1 := (Turn.hold ht0).trans hy (fun x hx => .inl hx)
    have hBres_1 : Bx w1 (w.heap.size + 1 + 1) [.slice none 0 0, .int .i64 0, .slice none 0 0, .int .i64 0, .bool false, .bool false, .int .i64 0, .slice none 0 0, .slice none 0 0, .int .i64 0] := hy.bx (Bx.hold hBres_0) (by first | omega | (simp; done) | (simp; omega)) (fun hm => by have := hfoot _ hm; omega)
    have hFres_1 : ∀ oo, w1.frozen? ⟨w.heap.size + 1 + 1, oo, none⟩ = false := fun oo => (hy.frozen (by first | omega | (simp; done) | (simp; omega)) (fun hm => by have := hfoot _ hm; omega)).trans ((fz_hold hFres_0) oo)
    try clear hBres_0 hFres_0
    have yres : w.heap.size + 1 + 1 < w1.heap.size := by omega
    have xres0 := hBres_1 0 _ rfl
    have xres1 := hBres_1 1 _ rfl
    have xres2 := hBres_1 2 _ rfl
    have xres3 := hBres_1 3 _ rfl
    have xres4 := hBres_1 4 _ rfl
    have xres5 := hBres_1 5 _ rfl
    have xres6 := hBres_1 6 _ rfl
    have xres7 := hBres_1 7 _ rfl
    have xres8 := hBres_1 8 _ rfl
    have xres9 := hBres_1 9 _ rfl
    have fres := hFres_1
    go_wp2
    refine bodyPost_ret (v := .agg #[(.slice (some ⟨g1, o1, none⟩) 4 c1), .int .i64 ((mPort m ⟨15, (D : Int), (a : Int), k⟩).pc), (.slice (some ⟨g2, o2, none⟩) 64 c2), .int .i64 ((mPort m ⟨15, (D : Int), (a : Int), k⟩).save), .bool (mPort m ⟨15, (D : Int), (a : Int), k⟩).lets, .bool (mPort m ⟨15, (D : Int), (a : Int), k⟩).waits, .int .i64 ((mPort m ⟨15, (D : Int), (a : Int), k⟩).halt), (.slice A5 (mPort m ⟨15, (D : Int), (a : Int), k⟩).ins.length c5), (.slice A6 (mPort m ⟨15, (D : Int), (a : Int), k⟩).outs.length c6), .int .i64 ((mPort m ⟨15, (D : Int), (a : Int), k⟩).count)]) (by simp [results, Tryd.results110, go_sem, MchMach.next, MchMach.setR, xres0, xres1, xres2, xres3, xres4, xres5, xres6, xres7, xres8, xres9]) rfl ⟨_, _, by rw [HV.out], by rw [HV.out]; exact Mach.dropX (Mach.dropX (Mach.dropX (Mach.hold hM1))), Turn.hold ht1, fun q hq => (ho4 q hq).imp id (fun h => by omega)⟩

end Go.Proofs.YtokibcicoomceaaDoor
