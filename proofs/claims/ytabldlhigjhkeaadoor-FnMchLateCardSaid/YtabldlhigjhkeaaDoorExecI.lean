/-
  An instruction is done: the program.
-/
import Derived.Test.YtabldlhigjhkeaaDoorMstLib
import Derived.Test.YtabldlhigjhkeaaDoorStepM
import Derived.Test.YtabldlhigjhkeaaDoorConstW
import Derived.Deep.DeepCutAuto
namespace Go.Proofs.YtabldlhigjhkeaaDoor
open Go.RowKit

set_option linter.unusedVariables false
set_option linter.unusedSimpArgs false
set_option maxRecDepth 100000

theorem Bx.keepE {w w' : World} {b : Nat} {cs : List Value} (h : Bx w b cs) (k : Ext w w') (hb : b < w.heap.size) : Bx w' b cs := k.bx h hb
theorem insTake_more {n : Int} {op : Int} {D a : Nat} {k : Int} (h : insTake n = ⟨op, (D : Int), (a : Int), k⟩) : (op = 0 → k ≤ 3) ∧ (op = 8 → k < 16) := by
  by_cases hq : insTakeB n = true
  · have hi : insOkB (insOf n) = true := by unfold insTakeB at hq; simp only [Bool.and_eq_true] at hq; exact hq.2
    unfold insTake at h
    rw [if_pos hq] at h
    rw [h] at hi
    exact ⟨(insR hi).stop, (insR hi).shift⟩
  · unfold insTake at h
    rw [if_neg hq] at h
    simp only [insNone, InsIns.mk.injEq] at h
    omega
theorem shl_dbl {n : Int} (h0 : 0 ≤ n) (h1 : n < 65536) {k : Nat} (hk : k < 16) : wrap64 (n * 2 ^ k) % 65536 = dbl n k := by
  rw [dbl_pow h0 h1]
  unfold wrap64
  have h2 : (2 : Int) ^ k ≤ 2 ^ 15 := by
    have := Nat.pow_le_pow_right (show 0 < 2 by decide) (show k ≤ 15 by omega)
    exact_mod_cast this
  have h3 : 0 ≤ n * 2 ^ k := Int.mul_nonneg h0 (by have := Int.pow_pos (n := 2) (m := k) (by decide); omega)
  have h4 : n * 2 ^ k ≤ 65536 * 2 ^ 15 := Int.le_trans (Int.mul_le_mul_of_nonneg_right (show n ≤ 65536 by omega) (by have := Int.pow_pos (n := 2) (m := k) (by decide); omega)) (Int.mul_le_mul_of_nonneg_left h2 (by decide))
  omega

theorem implGoes_any (m : MchMach) (A1 A2 A3 A4 : Option Addr) (n1 c1 n2 c2 n3 c3 n4 c4 : Nat) (w : World) :
    Calls Tryd.prog 46 #[.agg #[(.slice A1 n1 c1), .int .i64 m.pc, (.slice A2 n2 c2), .int .i64 m.save, .bool m.lets, .bool m.waits, .int .i64 m.halt, (.slice A3 n3 c3), (.slice A4 n4 c4), .int .i64 m.count]] w fun e w' => e = .returned (.bool (mGoes m)) ∧ Ext w w' := by
  cases q0 : (m.halt == 0)
  · 
    have HV := hide (show mGoes m = false by unfold mGoes; rw [q0]; simp)
    go_enter Tryd.func46, Tryd.ntmps46
    go_upto_region 1 with fail
    have he0 : Ext w (w.alloc (Obj.cells #[(.slice A1 n1 c1), .int .i64 m.pc, (.slice A2 n2 c2), .int .i64 m.save, .bool m.lets, .bool m.waits, .int .i64 m.halt, (.slice A3 n3 c3), (.slice A4 n4 c4), .int .i64 m.count] 26)) := (Ext.auto)
    have hs0 : w.heap.size + 1 ≤ ((w.alloc (Obj.cells #[(.slice A1 n1 c1), .int .i64 m.pc, (.slice A2 n2 c2), .int .i64 m.save, .bool m.lets, .bool m.waits, .int .i64 m.halt, (.slice A3 n3 c3), (.slice A4 n4 c4), .int .i64 m.count] 26))).heap.size := by simp
    have hq0 := hide (show ((w.alloc (Obj.cells #[(.slice A1 n1 c1), .int .i64 m.pc, (.slice A2 n2 c2), .int .i64 m.save, .bool m.lets, .bool m.waits, .int .i64 m.halt, (.slice A3 n3 c3), (.slice A4 n4 c4), .int .i64 m.count] 26))).heap.size = w.heap.size + 1 by simp)
    have hBm_0 : Bx (w.alloc (Obj.cells #[(.slice A1 n1 c1), .int .i64 m.pc, (.slice A2 n2 c2), .int .i64 m.save, .bool m.lets, .bool m.waits, .int .i64 m.halt, (.slice A3 n3 c3), (.slice A4 n4 c4), .int .i64 m.count] 26)) (w.heap.size) [(.slice A1 n1 c1), .int .i64 m.pc, (.slice A2 n2 c2), .int .i64 m.save, .bool m.lets, .bool m.waits, .int .i64 m.halt, (.slice A3 n3 c3), (.slice A4 n4 c4), .int .i64 m.count] := (by have := (Bx.new w #[(.slice A1 n1 c1), .int .i64 m.pc, (.slice A2 n2 c2), .int .i64 m.save, .bool m.lets, .bool m.waits, .int .i64 m.halt, (.slice A3 n3 c3), (.slice A4 n4 c4), .int .i64 m.count] 26); simpa using this)
    have hFm_0 : ∀ oo, ((w.alloc (Obj.cells #[(.slice A1 n1 c1), .int .i64 m.pc, (.slice A2 n2 c2), .int .i64 m.save, .bool m.lets, .bool m.waits, .int .i64 m.halt, (.slice A3 n3 c3), (.slice A4 n4 c4), .int .i64 m.count] 26))).frozen? ⟨w.heap.size, oo, none⟩ = false := fun oo => by simp
    generalize (w.alloc (Obj.cells #[(.slice A1 n1 c1), .int .i64 m.pc, (.slice A2 n2 c2), .int .i64 m.save, .bool m.lets, .bool m.waits, .int .i64 m.halt, (.slice A3 n3 c3), (.slice A4 n4 c4), .int .i64 m.count] 26)) = w0 at *
    have ym : w.heap.size < w0.heap.size := by omega
    have xm0 := hBm_0 0 _ rfl
    have xm1 := hBm_0 1 _ rfl
    have xm2 := hBm_0 2 _ rfl
    have xm3 := hBm_0 3 _ rfl
    have xm4 := hBm_0 4 _ rfl
    have xm5 := hBm_0 5 _ rfl
    have xm6 := hBm_0 6 _ rfl
    have xm7 := hBm_0 7 _ rfl
    have xm8 := hBm_0 8 _ rfl
    have xm9 := hBm_0 9 _ rfl
    have fm := hFm_0
    go_wp2
    go_ret
    exact ⟨by rw [HV.out]; rfl, Ext.hold he0⟩
  · 
    have HV := hide (show mGoes m = decide (m.count < 1000000) by unfold mGoes; rw [q0]; simp)
    go_enter Tryd.func46, Tryd.ntmps46
    go_upto_region 1 with fail
    have he0 : Ext w (w.alloc (Obj.cells #[(.slice A1 n1 c1), .int .i64 m.pc, (.slice A2 n2 c2), .int .i64 m.save, .bool m.lets, .bool m.waits, .int .i64 m.halt, (.slice A3 n3 c3), (.slice A4 n4 c4), .int .i64 m.count] 26)) := (Ext.auto)
    have hs0 : w.heap.size + 1 ≤ ((w.alloc (Obj.cells #[(.slice A1 n1 c1), .int .i64 m.pc, (.slice A2 n2 c2), .int .i64 m.save, .bool m.lets, .bool m.waits, .int .i64 m.halt, (.slice A3 n3 c3), (.slice A4 n4 c4), .int .i64 m.count] 26))).heap.size := by simp
    have hq0 := hide (show ((w.alloc (Obj.cells #[(.slice A1 n1 c1), .int .i64 m.pc, (.slice A2 n2 c2), .int .i64 m.save, .bool m.lets, .bool m.waits, .int .i64 m.halt, (.slice A3 n3 c3), (.slice A4 n4 c4), .int .i64 m.count] 26))).heap.size = w.heap.size + 1 by simp)
    have hBm_0 : Bx (w.alloc (Obj.cells #[(.slice A1 n1 c1), .int .i64 m.pc, (.slice A2 n2 c2), .int .i64 m.save, .bool m.lets, .bool m.waits, .int .i64 m.halt, (.slice A3 n3 c3), (.slice A4 n4 c4), .int .i64 m.count] 26)) (w.heap.size) [(.slice A1 n1 c1), .int .i64 m.pc, (.slice A2 n2 c2), .int .i64 m.save, .bool m.lets, .bool m.waits, .int .i64 m.halt, (.slice A3 n3 c3), (.slice A4 n4 c4), .int .i64 m.count] := (by have := (Bx.new w #[(.slice A1 n1 c1), .int .i64 m.pc, (.slice A2 n2 c2), .int .i64 m.save, .bool m.lets, .bool m.waits, .int .i64 m.halt, (.slice A3 n3 c3), (.slice A4 n4 c4), .int .i64 m.count] 26); simpa using this)
    have hFm_0 : ∀ oo, ((w.alloc (Obj.cells #[(.slice A1 n1 c1), .int .i64 m.pc, (.slice A2 n2 c2), .int .i64 m.save, .bool m.lets, .bool m.waits, .int .i64 m.halt, (.slice A3 n3 c3), (.slice A4 n4 c4), .int .i64 m.count] 26))).frozen? ⟨w.heap.size, oo, none⟩ = false := fun oo => by simp
    generalize (w.alloc (Obj.cells #[(.slice A1 n1 c1), .int .i64 m.pc, (.slice A2 n2 c2), .int .i64 m.save, .bool m.lets, .bool m.waits, .int .i64 m.halt, (.slice A3 n3 c3), (.slice A4 n4 c4), .int .i64 m.count] 26)) = w0 at *
    have ym : w.heap.size < w0.heap.size := by omega
    have xm0 := hBm_0 0 _ rfl
    have xm1 := hBm_0 1 _ rfl
    have xm2 := hBm_0 2 _ rfl
    have xm3 := hBm_0 3 _ rfl
    have xm4 := hBm_0 4 _ rfl
    have xm5 := hBm_0 5 _ rfl
    have xm6 := hBm_0 6 _ rfl
    have xm7 := hBm_0 7 _ rfl
    have xm8 := hBm_0 8 _ rfl
    have xm9 := hBm_0 9 _ rfl
    have fm := hFm_0
    go_wp2
    go_ret
    exact ⟨by rw [HV.out]; rfl, Ext.hold he0⟩

set_option maxHeartbeats 16000000 in
theorem input_any (m : MchMach) (g1 o1 c1 g2 o2 c2 : Nat) (v3 v4 : Value) (lo : Nat) (X : List Nat) (w : World) (hM : Mach 3 lo X w g1 o1 c1 g2 o2 c2 v3 v4 m) (bm : Nat) (hbX : bm ∈ X) (hBm : Bx w bm [(.slice (some ⟨g1, o1, none⟩) 4 c1), .int .i64 m.pc, (.slice (some ⟨g2, o2, none⟩) 64 c2), .int .i64 m.save, .bool m.lets, .bool m.waits, .int .i64 m.halt, v3, v4, .int .i64 m.count]) (hFm : ∀ oo, w.frozen? ⟨bm, oo, none⟩ = false) :
    Calls Tryd.prog 79 #[.pointer (some ⟨bm, 0, none⟩)] w fun e w' => e = .returned (.int .i64 ((m.ins[0]?).getD 0)) ∧ ∃ v3', Bx w' bm [(.slice (some ⟨g1, o1, none⟩) 4 c1), .int .i64 (({ m with ins := m.ins.drop 1 } : MchMach).pc), (.slice (some ⟨g2, o2, none⟩) 64 c2), .int .i64 (({ m with ins := m.ins.drop 1 } : MchMach).save), .bool ({ m with ins := m.ins.drop 1 } : MchMach).lets, .bool ({ m with ins := m.ins.drop 1 } : MchMach).waits, .int .i64 (({ m with ins := m.ins.drop 1 } : MchMach).halt), v3', v4, .int .i64 (({ m with ins := m.ins.drop 1 } : MchMach).count)] ∧ (∀ oo, w'.frozen? ⟨bm, oo, none⟩ = false) ∧ Mach 3 lo X w' g1 o1 c1 g2 o2 c2 v3' v4 ({ m with ins := m.ins.drop 1 } : MchMach) ∧ Turn [bm] w w' := by
  obtain ⟨A3, c3, rfl, hl3, hm3⟩ := hM.form3
  unfold maxLen at hm3
  have hb1_ : bm < w.heap.size := by
    obtain ⟨F3, wa, Fs, xs, hC⟩ := hM
    exact (hC.av bm hbX).1
  have xm0 := hBm 0 _ rfl
  have xm1 := hBm 1 _ rfl
  have xm2 := hBm 2 _ rfl
  have xm3 := hBm 3 _ rfl
  have xm4 := hBm 4 _ rfl
  have xm5 := hBm 5 _ rfl
  have xm6 := hBm 6 _ rfl
  have xm7 := hBm 7 _ rfl
  have xm8 := hBm 8 _ rfl
  have xm9 := hBm 9 _ rfl
  by_cases hin : 0 < m.ins.length
  · 
    have q1 : ((m.ins.length : Int) == 0) = false := beq_eq_false_iff_ne.2 (by omega)
    obtain ⟨bi, oi, o3, rfl, hif, hbi, -, hci, -, e0, hM0⟩ := hM.dropIns hin
    have HN := hide (show (m.ins[0]?).getD 0 = m.ins[0] by rw [List.getElem?_eq_getElem hin]; rfl)
    have z0 : (0 : Int) < (m.ins.length : Int) := by omega
    have z1 : (1 : Int) ≤ (m.ins.length : Int) := by omega
    go_enter Tryd.func79, Tryd.ntmps79
    go_wp2
    try simp only [hif]
    clear hif
    have hBF : Bx (w.setCell ⟨bm, 7, none⟩ (.slice (some ⟨bi, o3, none⟩) (m.ins.length - 1) (c3 - 1))) bm [(.slice (some ⟨g1, o1, none⟩) 4 c1), .int .i64 m.pc, (.slice (some ⟨g2, o2, none⟩) 64 c2), .int .i64 m.save, .bool m.lets, .bool m.waits, .int .i64 m.halt, (.slice (some ⟨bi, o3, none⟩) (m.ins.length - 1) (c3 - 1)), v4, .int .i64 m.count] := by have := Bx.put hBm (j := 7) (by simp) (.slice (some ⟨bi, o3, none⟩) (m.ins.length - 1) (c3 - 1)); simpa using this
    refine bodyPost_ret (v := .int .i64 m.ins[0]) (by simp [results, Tryd.results79, go_sem]) rfl ?_
    exact ⟨by rw [HN.out], _, hBF, fz_hold hFm, Mach.far hM0 hbX (p := ⟨bm, 7, none⟩) _, (Turn.refl _ _).set (.inl (by simp)) _⟩
  · 
    have q1 : ((m.ins.length : Int) == 0) = true := beq_iff_eq.2 (by omega)
    have hnil : m.ins = [] := List.eq_nil_of_length_eq_zero (by omega)
    have HN := hide (show (m.ins[0]?).getD 0 = 0 by rw [hnil]; rfl)
    have HE := hide (show ({ m with ins := m.ins.drop 1 } : MchMach) = m by cases m; simp only at hnil; subst hnil; rfl)
    clear hnil
    go_enter Tryd.func79, Tryd.ntmps79
    go_wp2
    refine bodyPost_ret (v := .int .i64 0) (by simp [results, Tryd.results79, go_sem]) rfl ?_
    rw [HE.out, HN.out]
    exact ⟨rfl, _, hBm, hFm, hM, Turn.refl _ _⟩

set_option maxHeartbeats 64000000 in
theorem exec_any (m : MchMach) (g1 o1 c1 g2 o2 c2 : Nat) (v3 v4 : Value) (lo : Nat) (X : List Nat) (w : World) (hM : Mach 3 lo X w g1 o1 c1 g2 o2 c2 v3 v4 m) (hk : MOk m) (hc : m.count < 1000000) (hn4 : m.outs.length ≤ 4194304) (op : Int) (D a : Nat) (k : Int) (hD : D < 4) (ha : a < 4) (hk0 : 0 ≤ k) (hk1 : k ≤ 255) (hop : op = 0 ∨ op = 1 ∨ op = 2 ∨ op = 3 ∨ op = 4 ∨ op = 5 ∨ op = 6 ∨ op = 7 ∨ op = 8 ∨ op = 9 ∨ op = 10 ∨ op = 11 ∨ op = 12 ∨ op = 13 ∨ op = 14 ∨ op = 15) (hkc : 3 ≤ op → op ≤ 7 → k < 4) (hk0c : op = 0 → k ≤ 3) (hk8 : op = 8 → k < 16) (bm : Nat) (hbX : bm ∈ X) (hBm : Bx w bm [(.slice (some ⟨g1, o1, none⟩) 4 c1), .int .i64 m.pc, (.slice (some ⟨g2, o2, none⟩) 64 c2), .int .i64 m.save, .bool m.lets, .bool m.waits, .int .i64 m.halt, v3, v4, .int .i64 m.count]) (hFm : ∀ oo, w.frozen? ⟨bm, oo, none⟩ = false) :
    Calls Tryd.prog 72 #[.pointer (some ⟨bm, 0, none⟩), .agg #[.int .i64 op, .int .i64 (D : Int), .int .i64 (a : Int), .int .i64 k]] w fun e w' => e = .returned (.tuple #[]) ∧ ∃ v3' v4', Bx w' bm [(.slice (some ⟨g1, o1, none⟩) 4 c1), .int .i64 ((mDo m ⟨op, (D : Int), (a : Int), k⟩).pc), (.slice (some ⟨g2, o2, none⟩) 64 c2), .int .i64 ((mDo m ⟨op, (D : Int), (a : Int), k⟩).save), .bool (mDo m ⟨op, (D : Int), (a : Int), k⟩).lets, .bool (mDo m ⟨op, (D : Int), (a : Int), k⟩).waits, .int .i64 ((mDo m ⟨op, (D : Int), (a : Int), k⟩).halt), v3', v4', .int .i64 ((mDo m ⟨op, (D : Int), (a : Int), k⟩).count)] ∧ (∀ oo, w'.frozen? ⟨bm, oo, none⟩ = false) ∧ Mach 3 lo X w' g1 o1 c1 g2 o2 c2 v3' v4' (mDo m ⟨op, (D : Int), (a : Int), k⟩) ∧ Turn (bm :: mfoot g1 g2 v4) w w' ∧ (∀ q, v4'.ownBlock = some q → v4.ownBlock = some q ∨ w.heap.size ≤ q) := by
  obtain ⟨A3, c3, rfl, hl3, hm3⟩ := hM.form3
  obtain ⟨A4, c4, rfl, hl4, hm4⟩ := hM.form4
  unfold maxLen at hm3 hm4
  have hp0 := hk.p0
  have hp1 := hk.p1
  have hc0 := hk.c0
  have hlt := hM.lt
  have hlt1 := hlt.1
  have hlt2 := hlt.2.1
  have hgl1 := hlt.2.2.1
  have hgl2 := hlt.2.2.2.1
  have hown : ∀ q, (Value.slice A4 m.outs.length c4).ownBlock = some q → q < w.heap.size := fun q hq => (hlt.2.2.2.2 q (by unfold mfoot; simp [hq])).2
  have hfoot : ∀ x, x ∈ mfoot g1 g2 (Value.slice A4 m.outs.length c4) → x < w.heap.size := fun x hx => (hlt.2.2.2.2 x hx).2
  clear hlt
  have hbv : bm < w.heap.size ∧ bm ≠ g1 ∧ bm ≠ g2 ∧ (Value.slice A4 m.outs.length c4).ownBlock ≠ some bm := by
    obtain ⟨F3, wa, Fs, xs, hC⟩ := hM
    have := hC.av bm hbX
    exact ⟨this.1, this.2.2.1, this.2.2.2.1, this.2.2.2.2.2⟩
  have hb1_ := hbv.1
  have hb2_ := hbv.2.1
  have hb3_ := hbv.2.2.1
  have hb4_ := hbv.2.2.2
  clear hbv
  have hs0_ := hk.s0
  have hs1_ := hk.s1
  go_enter Tryd.func72, Tryd.ntmps72
  go_upto_region 1 with fail
  have he0 : Ext w (w.alloc (Obj.cells #[.int .i64 op, .int .i64 (D : Int), .int .i64 (a : Int), .int .i64 k] 44)) := (Ext.auto)
  have hs0 : w.heap.size + 1 ≤ ((w.alloc (Obj.cells #[.int .i64 op, .int .i64 (D : Int), .int .i64 (a : Int), .int .i64 k] 44))).heap.size := by simp
  have hq0 := hide (show ((w.alloc (Obj.cells #[.int .i64 op, .int .i64 (D : Int), .int .i64 (a : Int), .int .i64 k] 44))).heap.size = w.heap.size + 1 by simp)
  have hBi_0 : Bx (w.alloc (Obj.cells #[.int .i64 op, .int .i64 (D : Int), .int .i64 (a : Int), .int .i64 k] 44)) (w.heap.size) [.int .i64 op, .int .i64 (D : Int), .int .i64 (a : Int), .int .i64 k] := (by have := (Bx.new w #[.int .i64 op, .int .i64 (D : Int), .int .i64 (a : Int), .int .i64 k] 44); simpa using this)
  have hFi_0 : ∀ oo, ((w.alloc (Obj.cells #[.int .i64 op, .int .i64 (D : Int), .int .i64 (a : Int), .int .i64 k] 44))).frozen? ⟨w.heap.size, oo, none⟩ = false := fun oo => by simp
  generalize (w.alloc (Obj.cells #[.int .i64 op, .int .i64 (D : Int), .int .i64 (a : Int), .int .i64 k] 44)) = w0 at *
  have ht0 : Turn (bm :: mfoot g1 g2 (.slice A4 m.outs.length c4)) w w0 := Turn.of_ext he0 _
  have hM0 : Mach 3 lo ((w.heap.size) :: X) w0 g1 o1 c1 g2 o2 c2 (.slice A3 m.ins.length c3) (.slice A4 m.outs.length c4) m := hM.addXs he0 [w.heap.size] (by intro b hb; simp at hb; omega)
  have yg1 : g1 < w0.heap.size := by omega
  have yg2 : g2 < w0.heap.size := by omega
  have hBm_0 : Bx w0 bm [(.slice (some ⟨g1, o1, none⟩) 4 c1), .int .i64 m.pc, (.slice (some ⟨g2, o2, none⟩) 64 c2), .int .i64 m.save, .bool m.lets, .bool m.waits, .int .i64 m.halt, (.slice A3 m.ins.length c3), (.slice A4 m.outs.length c4), .int .i64 m.count] := hBm.keepE he0 hb1_
  have hFm_0 : ∀ oo, w0.frozen? ⟨bm, oo, none⟩ = false := fun oo => (he0.frozen hb1_).trans (hFm oo)
  clear hBm hFm
  have hbY : bm ∈ w.heap.size :: X := List.mem_cons_of_mem _ hbX
  have rD := hM0.regAt hD
  have ra := hM0.regAt ha
  have fr1 := hM0.fz1
  have fr2 := hM0.fz2
  have hb0 := (hk.reg (a : Int)).1
  have hb1 := (hk.reg (a : Int)).2
  have z0 : (0 : Int) ≤ (D : Int) := by omega
  have z1 : (D : Int) < 4 := by omega
  have z2 : (0 : Int) ≤ (a : Int) := by omega
  have z3 : (a : Int) < 4 := by omega
  obtain ⟨Q, hQ'⟩ := Int.eq_ofNat_of_zero_le (show 0 ≤ (m.reg (a : Int) + k) % 65536 by omega)
  have hQ := hide hQ'
  have z4 : (0 : Int) ≤ (Q : Int) := by omega
  clear hQ'
  have yi : w.heap.size < w0.heap.size := by omega
  have xi0 := hBi_0 0 _ rfl
  have xi1 := hBi_0 1 _ rfl
  have xi2 := hBi_0 2 _ rfl
  have xi3 := hBi_0 3 _ rfl
  have fi := hFi_0
  have ym : bm < w0.heap.size := by omega
  have xm0 := hBm_0 0 _ rfl
  have xm1 := hBm_0 1 _ rfl
  have xm2 := hBm_0 2 _ rfl
  have xm3 := hBm_0 3 _ rfl
  have xm4 := hBm_0 4 _ rfl
  have xm5 := hBm_0 5 _ rfl
  have xm6 := hBm_0 6 _ rfl
  have xm7 := hBm_0 7 _ rfl
  have xm8 := hBm_0 8 _ rfl
  have xm9 := hBm_0 9 _ rfl
  have fm := hFm_0
  go_upto_region 2 with (go_at_call 77; refine (implWrap_any _ _).mono ?_; rintro e w' ⟨rfl, rfl⟩)
  go_upto_region 2 with fail
  have hS : ∀ w', Ext w0 w' → ∀ bb oo, bb < w0.heap.size → w'.cell? ⟨bb, oo, none⟩ = w0.cell? ⟨bb, oo, none⟩ := fun w' hx bb oo hb => hx.cell hb
  refine wp_region_plan (fun w' => Ext w0 w') 16 (.float 0 (.float 1 (.float 2 (.float 3 (.float 4 (.float 5 (.float 6 (.float 7 (.float 8 (.float 9 (.float 10 (.float 11 (.float 12 (.float 13 (.float 14 (.float 15 (.tail 16))))))))))))))))) (by kernel_rfl) (by kernel_rfl) (Ext.refl _).drew ?_
  iterate 16 ((refine Plan.float_step (v := ?_) rfl (by rfl) (fun _ _ _ h => h) (fun w' hSw => ?_) ?_; rotate_left; · (go_simp; try with_reducible rfl)); (try simp only [Act.put, List.setIfInBounds_toArray, List.set_cons_zero, List.set_cons_succ]))
  refine Plan.tail_step ?_
  simp only [List.drop_succ_cons, List.drop_zero]
  clear hS
  go_upto_region 4 with (go_at_call 77; refine (implWrap_any _ _).mono ?_; rintro e w' ⟨he, rfl⟩; rw [hQ.out] at he; subst he)
  clear xi0 xi1 xi2 xi3 yi
  clear fi
  clear xm0 xm1 xm2 xm3 xm4 xm5 xm6 xm7 xm8 xm9 ym
  clear fm
  have hMd := Mach.drew hM0
  clear hM0 rD ra fr1 fr2
  have ht1 : Turn (bm :: mfoot g1 g2 (.slice A4 m.outs.length c4)) w (World.drew w0) := (Turn.hold ht0).drew
  have hs1 : w.heap.size + 1 ≤ (World.drew w0).heap.size := by simp; omega
  have yg1 : g1 < (World.drew w0).heap.size := yg1
  have yg2 : g2 < (World.drew w0).heap.size := yg2
  have hBi_1 : Bx (World.drew w0) (w.heap.size) [.int .i64 op, .int .i64 (D : Int), .int .i64 (a : Int), .int .i64 k] := Bx.hold hBi_0
  have hFi_1 : ∀ oo, (World.drew w0).frozen? ⟨w.heap.size, oo, none⟩ = false := fz_hold hFi_0
  have hBm_1 : Bx (World.drew w0) (bm) [(.slice (some ⟨g1, o1, none⟩) 4 c1), .int .i64 m.pc, (.slice (some ⟨g2, o2, none⟩) 64 c2), .int .i64 m.save, .bool m.lets, .bool m.waits, .int .i64 m.halt, (.slice A3 m.ins.length c3), (.slice A4 m.outs.length c4), .int .i64 m.count] := Bx.hold hBm_0
  have hFm_1 : ∀ oo, (World.drew w0).frozen? ⟨bm, oo, none⟩ = false := fz_hold hFm_0
  generalize (World.drew w0) = w1 at *
  clear hBi_0 hFi_0 hBm_0 hFm_0
  have hM0 := hMd
  clear hMd
  have rD := hM0.regAt hD
  have ra := hM0.regAt ha
  have fr1 := hM0.fz1
  have fr2 := hM0.fz2
  have hd0 := (hk.reg (D : Int)).1
  have hd1 := (hk.reg (D : Int)).2
  by_cases hdo : 3 ≤ op ∧ op ≤ 7
  · 
    obtain ⟨k, rfl⟩ := Int.eq_ofNat_of_zero_le hk0
    have hkk : k < 4 := by have := hkc (by omega) (by omega); omega
    have rk := hM0.regAt hkk
    have z6 : (0 : Int) ≤ (k : Int) := by omega
    have z7 : (k : Int) < 4 := by omega
    have hwk := hk.reg (k : Int)
    have hdw := wordB_iff.1 (wrdDo_word (op - 2) (m.reg (a : Int)) (m.reg (k : Int)))
    have hdw0 := hdw.1
    have hdw1 := hdw.2
    have HV := hide (show mDo m ⟨op, (D : Int), (a : Int), (k : Int)⟩ = ((m.setR (D : Int) (wrdDo (op - 2) (m.reg (a : Int)) (m.reg (k : Int)))).next (m.pc + 1)) by unfold mDo; simp only []; rw [if_neg (by omega), if_neg (by omega), if_neg (by omega), if_neg (by omega), if_neg (by omega), if_neg (by omega), if_neg (by omega), if_neg (by omega), if_neg (by omega)])
    have q0 : (op == 0) = false := by simp; omega
    have q1 : (op == 1) = false := by simp; omega
    have q2 : (op == 2) = false := by simp; omega
    have q8 : (op == 8) = false := by simp; omega
    have q9 : (op == 9) = false := by simp; omega
    have q10 : (op == 10) = false := by simp; omega
    have q11 : (op == 11) = false := by simp; omega
    have q12 : (op == 12) = false := by simp; omega
    have q13 : (op == 13) = false := by simp; omega
    have q14 : (op == 14) = false := by simp; omega
    have q15 : (op == 15) = false := by simp; omega
    have ho2 := hide (show IntKind.i64.wrap (IntKind.i64.wrap (op - 3) + 1) = op - 2 by rw [IntKind.wrap_i64, IntKind.wrap_i64]; omega)
    have hwa := wordB_yes hb0 hb1
    have hwb := wordB_yes hwk.1 hwk.2
    have yi : w.heap.size < w1.heap.size := by omega
    have xi0 := hBi_1 0 _ rfl
    have xi1 := hBi_1 1 _ rfl
    have xi2 := hBi_1 2 _ rfl
    have xi3 := hBi_1 3 _ rfl
    have fi := hFi_1
    have ym : bm < w1.heap.size := by omega
    have xm0 := hBm_1 0 _ rfl
    have xm1 := hBm_1 1 _ rfl
    have xm2 := hBm_1 2 _ rfl
    have xm3 := hBm_1 3 _ rfl
    have xm4 := hBm_1 4 _ rfl
    have xm5 := hBm_1 5 _ rfl
    have xm6 := hBm_1 6 _ rfl
    have xm7 := hBm_1 7 _ rfl
    have xm8 := hBm_1 8 _ rfl
    have xm9 := hBm_1 9 _ rfl
    have fm := hFm_1
    go_upto_region 7 with fail
    have hS : ∀ w', Ext w1 w' → ∀ bb oo, bb < w1.heap.size → w'.cell? ⟨bb, oo, none⟩ = w1.cell? ⟨bb, oo, none⟩ := fun w' hx bb oo hb => hx.cell hb
    refine wp_region_plan (fun w' => Ext w1 w') 15 (.float 0 (.float 1 (.float 2 (.float 3 (.float 4 (.float 5 (.float 6 (.float 7 (.float 8 (.float 9 (.float 10 (.float 11 (.float 12 (.float 13 (.chain 14 (.tail 15)))))))))))))))) (by kernel_rfl) (by kernel_rfl) (Ext.refl _).drew ?_
    iterate 14 ((refine Plan.float_step (v := ?_) rfl (by rfl) (fun _ _ _ h => h) (fun w' hSw => ?_) ?_; rotate_left; · (go_simp; try with_reducible rfl)); (try simp only [Act.put, List.setIfInBounds_toArray, List.set_cons_zero, List.set_cons_succ]))
    refine Plan.chain_step rfl (fun K hK => ?_)
    go_simp
    rw [ho2.out]
    refine (implWrdDo_any (op - 2) _ _ _ ⟨by omega, by omega⟩ hwa hwb).mono ?_
    rintro e w' ⟨rfl, rfl⟩
    refine hK.out _ _ Ext.auto ?_
    clear hK
    (try simp only [Act.put, List.setIfInBounds_toArray, List.set_cons_zero, List.set_cons_succ])
    refine Plan.tail_step ?_
    simp only [List.drop_succ_cons, List.drop_zero]
    clear hS
    go_wp2
    clear xm0 xm1 xm2 xm3 xm4 xm5 xm6 xm7 xm8 xm9 ym
    clear fm
    have b_0 : Bx (w1.setCell ⟨g1, o1 + D, none⟩ (.int .i64 (wrdDo (op - 2) (m.reg (a : Int)) (m.reg (k : Int))))) bm [(.slice (some ⟨g1, o1, none⟩) 4 c1), .int .i64 m.pc, (.slice (some ⟨g2, o2, none⟩) 64 c2), .int .i64 m.save, .bool m.lets, .bool m.waits, .int .i64 m.halt, (.slice A3 m.ins.length c3), (.slice A4 m.outs.length c4), .int .i64 m.count] := hBm_1.setCell (by show g1 ≠ bm; omega) _
    have b_1 : Bx ((w1.setCell ⟨g1, o1 + D, none⟩ (.int .i64 (wrdDo (op - 2) (m.reg (a : Int)) (m.reg (k : Int))))).setCell ⟨bm, 1, none⟩ (.int .i64 ((m.pc + 1) % 65536))) bm [(.slice (some ⟨g1, o1, none⟩) 4 c1), (.int .i64 ((m.pc + 1) % 65536)), (.slice (some ⟨g2, o2, none⟩) 64 c2), .int .i64 m.save, .bool m.lets, .bool m.waits, .int .i64 m.halt, (.slice A3 m.ins.length c3), (.slice A4 m.outs.length c4), .int .i64 m.count] := by have := Bx.put b_0 (j := 1) (by simp) (.int .i64 ((m.pc + 1) % 65536)); simpa using this
    have b_2 : Bx (((w1.setCell ⟨g1, o1 + D, none⟩ (.int .i64 (wrdDo (op - 2) (m.reg (a : Int)) (m.reg (k : Int))))).setCell ⟨bm, 1, none⟩ (.int .i64 ((m.pc + 1) % 65536))).setCell ⟨bm, 9, none⟩ (.int .i64 (m.count + 1))) bm [(.slice (some ⟨g1, o1, none⟩) 4 c1), (.int .i64 ((m.pc + 1) % 65536)), (.slice (some ⟨g2, o2, none⟩) 64 c2), .int .i64 m.save, .bool m.lets, .bool m.waits, .int .i64 m.halt, (.slice A3 m.ins.length c3), (.slice A4 m.outs.length c4), (.int .i64 (m.count + 1))] := by have := Bx.put b_1 (j := 9) (by simp) (.int .i64 (m.count + 1)); simpa using this
    have b_3 : Bx (World.drew (((w1.setCell ⟨g1, o1 + D, none⟩ (.int .i64 (wrdDo (op - 2) (m.reg (a : Int)) (m.reg (k : Int))))).setCell ⟨bm, 1, none⟩ (.int .i64 ((m.pc + 1) % 65536))).setCell ⟨bm, 9, none⟩ (.int .i64 (m.count + 1)))) bm [(.slice (some ⟨g1, o1, none⟩) 4 c1), (.int .i64 ((m.pc + 1) % 65536)), (.slice (some ⟨g2, o2, none⟩) 64 c2), .int .i64 m.save, .bool m.lets, .bool m.waits, .int .i64 m.halt, (.slice A3 m.ins.length c3), (.slice A4 m.outs.length c4), (.int .i64 (m.count + 1))] := Bx.hold b_2
    have hBF : Bx (World.drew (((w1.setCell ⟨g1, o1 + D, none⟩ (.int .i64 (wrdDo (op - 2) (m.reg (a : Int)) (m.reg (k : Int))))).setCell ⟨bm, 1, none⟩ (.int .i64 ((m.pc + 1) % 65536))).setCell ⟨bm, 9, none⟩ (.int .i64 (m.count + 1)))) bm [(.slice (some ⟨g1, o1, none⟩) 4 c1), (.int .i64 ((m.pc + 1) % 65536)), (.slice (some ⟨g2, o2, none⟩) 64 c2), .int .i64 m.save, .bool m.lets, .bool m.waits, .int .i64 m.halt, (.slice A3 m.ins.length c3), (.slice A4 m.outs.length c4), (.int .i64 (m.count + 1))] := b_3
    have hFF : ∀ oo, (World.drew (((w1.setCell ⟨g1, o1 + D, none⟩ (.int .i64 (wrdDo (op - 2) (m.reg (a : Int)) (m.reg (k : Int))))).setCell ⟨bm, 1, none⟩ (.int .i64 ((m.pc + 1) % 65536))).setCell ⟨bm, 9, none⟩ (.int .i64 (m.count + 1)))).frozen? ⟨bm, oo, none⟩ = false := fz_hold hFm_1
    have hMF : Mach 3 lo X (World.drew (((w1.setCell ⟨g1, o1 + D, none⟩ (.int .i64 (wrdDo (op - 2) (m.reg (a : Int)) (m.reg (k : Int))))).setCell ⟨bm, 1, none⟩ (.int .i64 ((m.pc + 1) % 65536))).setCell ⟨bm, 9, none⟩ (.int .i64 (m.count + 1)))) g1 o1 c1 g2 o2 c2 (.slice A3 m.ins.length c3) (.slice A4 m.outs.length c4) ((m.setR (D : Int) (wrdDo (op - 2) (m.reg (a : Int)) (m.reg (k : Int)))).next (m.pc + 1)) := Mach.dropX (Mach.same ((Mach.drew (Mach.far (Mach.far (Mach.setReg hM0 hD (n := (wrdDo (op - 2) (m.reg (a : Int)) (m.reg (k : Int)))) ⟨by omega, by omega⟩) hbY (p := ⟨bm, 1, none⟩) (.int .i64 ((m.pc + 1) % 65536))) hbY (p := ⟨bm, 9, none⟩) (.int .i64 (m.count + 1))))) (m' := ((m.setR (D : Int) (wrdDo (op - 2) (m.reg (a : Int)) (m.reg (k : Int)))).next (m.pc + 1))) rfl rfl rfl rfl)
    have htF : Turn (bm :: mfoot g1 g2 (.slice A4 m.outs.length c4)) w (World.drew (((w1.setCell ⟨g1, o1 + D, none⟩ (.int .i64 (wrdDo (op - 2) (m.reg (a : Int)) (m.reg (k : Int))))).setCell ⟨bm, 1, none⟩ (.int .i64 ((m.pc + 1) % 65536))).setCell ⟨bm, 9, none⟩ (.int .i64 (m.count + 1)))) := by
      (repeat' (first | (with_reducible exact ht1) | (with_reducible refine Turn.set ?_ ?_ _) | (with_reducible refine Turn.drew ?_)))
      all_goals (refine Or.inl ?_; simp [mfoot])
    (try simp only [Exit.inBlock, Exit.then])
    refine bodyPost_end (results_none rfl _ _ _) rfl ?_
    rw [HV.out]
    exact ⟨rfl, _, _, hBF, hFF, hMF, htF, fun q hq => .inl hq⟩
  have hop : op = 0 ∨ op = 1 ∨ op = 2 ∨ op = 8 ∨ op = 9 ∨ op = 10 ∨ op = 11 ∨ op = 12 ∨ op = 13 ∨ op = 14 ∨ op = 15 := by omega
  clear hdo
  rcases hop with rfl | rfl | rfl | rfl | rfl | rfl | rfl | rfl | rfl | rfl | rfl
  · 
    have hk3 := hk0c rfl
    clear hop hkc hk0c hk8
    have hkk : k = 0 ∨ k = 1 ∨ k = 2 ∨ k = 3 := by omega
    rcases hkk with rfl | rfl | rfl | rfl
    · 
      have HV := hide (show mDo m ⟨0, (D : Int), (a : Int), 0⟩ = (({ m with halt := 1 } : MchMach).next (m.pc + 1)) by rfl)
      have yi : w.heap.size < w1.heap.size := by omega
      have xi0 := hBi_1 0 _ rfl
      have xi1 := hBi_1 1 _ rfl
      have xi2 := hBi_1 2 _ rfl
      have xi3 := hBi_1 3 _ rfl
      have fi := hFi_1
      have ym : bm < w1.heap.size := by omega
      have xm0 := hBm_1 0 _ rfl
      have xm1 := hBm_1 1 _ rfl
      have xm2 := hBm_1 2 _ rfl
      have xm3 := hBm_1 3 _ rfl
      have xm4 := hBm_1 4 _ rfl
      have xm5 := hBm_1 5 _ rfl
      have xm6 := hBm_1 6 _ rfl
      have xm7 := hBm_1 7 _ rfl
      have xm8 := hBm_1 8 _ rfl
      have xm9 := hBm_1 9 _ rfl
      have fm := hFm_1
      go_wp2
      clear xm0 xm1 xm2 xm3 xm4 xm5 xm6 xm7 xm8 xm9 ym
      clear fm
      have b_0 : Bx (w1.setCell ⟨bm, 6, none⟩ (.int .i64 1)) bm [(.slice (some ⟨g1, o1, none⟩) 4 c1), .int .i64 m.pc, (.slice (some ⟨g2, o2, none⟩) 64 c2), .int .i64 m.save, .bool m.lets, .bool m.waits, (.int .i64 1), (.slice A3 m.ins.length c3), (.slice A4 m.outs.length c4), .int .i64 m.count] := by have := Bx.put hBm_1 (j := 6) (by simp) (.int .i64 1); simpa using this
      have b_1 : Bx ((w1.setCell ⟨bm, 6, none⟩ (.int .i64 1)).setCell ⟨bm, 1, none⟩ (.int .i64 ((m.pc + 1) % 65536))) bm [(.slice (some ⟨g1, o1, none⟩) 4 c1), (.int .i64 ((m.pc + 1) % 65536)), (.slice (some ⟨g2, o2, none⟩) 64 c2), .int .i64 m.save, .bool m.lets, .bool m.waits, (.int .i64 1), (.slice A3 m.ins.length c3), (.slice A4 m.outs.length c4), .int .i64 m.count] := by have := Bx.put b_0 (j := 1) (by simp) (.int .i64 ((m.pc + 1) % 65536)); simpa using this
      have b_2 : Bx (((w1.setCell ⟨bm, 6, none⟩ (.int .i64 1)).setCell ⟨bm, 1, none⟩ (.int .i64 ((m.pc + 1) % 65536))).setCell ⟨bm, 9, none⟩ (.int .i64 (m.count + 1))) bm [(.slice (some ⟨g1, o1, none⟩) 4 c1), (.int .i64 ((m.pc + 1) % 65536)), (.slice (some ⟨g2, o2, none⟩) 64 c2), .int .i64 m.save, .bool m.lets, .bool m.waits, (.int .i64 1), (.slice A3 m.ins.length c3), (.slice A4 m.outs.length c4), (.int .i64 (m.count + 1))] := by have := Bx.put b_1 (j := 9) (by simp) (.int .i64 (m.count + 1)); simpa using this
      have hBF : Bx (((w1.setCell ⟨bm, 6, none⟩ (.int .i64 1)).setCell ⟨bm, 1, none⟩ (.int .i64 ((m.pc + 1) % 65536))).setCell ⟨bm, 9, none⟩ (.int .i64 (m.count + 1))) bm [(.slice (some ⟨g1, o1, none⟩) 4 c1), (.int .i64 ((m.pc + 1) % 65536)), (.slice (some ⟨g2, o2, none⟩) 64 c2), .int .i64 m.save, .bool m.lets, .bool m.waits, (.int .i64 1), (.slice A3 m.ins.length c3), (.slice A4 m.outs.length c4), (.int .i64 (m.count + 1))] := b_2
      have hFF : ∀ oo, (((w1.setCell ⟨bm, 6, none⟩ (.int .i64 1)).setCell ⟨bm, 1, none⟩ (.int .i64 ((m.pc + 1) % 65536))).setCell ⟨bm, 9, none⟩ (.int .i64 (m.count + 1))).frozen? ⟨bm, oo, none⟩ = false := fz_hold hFm_1
      have hMF : Mach 3 lo X (((w1.setCell ⟨bm, 6, none⟩ (.int .i64 1)).setCell ⟨bm, 1, none⟩ (.int .i64 ((m.pc + 1) % 65536))).setCell ⟨bm, 9, none⟩ (.int .i64 (m.count + 1))) g1 o1 c1 g2 o2 c2 (.slice A3 m.ins.length c3) (.slice A4 m.outs.length c4) (({ m with halt := 1 } : MchMach).next (m.pc + 1)) := Mach.dropX (Mach.same ((Mach.far (Mach.far (Mach.far hM0 hbY (p := ⟨bm, 6, none⟩) (.int .i64 1)) hbY (p := ⟨bm, 1, none⟩) (.int .i64 ((m.pc + 1) % 65536))) hbY (p := ⟨bm, 9, none⟩) (.int .i64 (m.count + 1)))) (m' := (({ m with halt := 1 } : MchMach).next (m.pc + 1))) rfl rfl rfl rfl)
      have htF : Turn (bm :: mfoot g1 g2 (.slice A4 m.outs.length c4)) w (((w1.setCell ⟨bm, 6, none⟩ (.int .i64 1)).setCell ⟨bm, 1, none⟩ (.int .i64 ((m.pc + 1) % 65536))).setCell ⟨bm, 9, none⟩ (.int .i64 (m.count + 1))) := by
        (repeat' (first | (with_reducible exact ht1) | (with_reducible refine Turn.set ?_ ?_ _) | (with_reducible refine Turn.drew ?_)))
        all_goals (refine Or.inl ?_; simp [mfoot])
      (try simp only [Exit.inBlock, Exit.then])
      refine bodyPost_end (results_none rfl _ _ _) rfl ?_
      rw [HV.out]
      exact ⟨rfl, _, _, hBF, hFF, hMF, htF, fun q hq => .inl hq⟩
    · 
      have HV := hide (show mDo m ⟨0, (D : Int), (a : Int), 1⟩ = (({ m with lets := true } : MchMach).next m.save) by rfl)
      have HM := hide (show m.save % 65536 = m.save by omega)
      have yi : w.heap.size < w1.heap.size := by omega
      have xi0 := hBi_1 0 _ rfl
      have xi1 := hBi_1 1 _ rfl
      have xi2 := hBi_1 2 _ rfl
      have xi3 := hBi_1 3 _ rfl
      have fi := hFi_1
      have ym : bm < w1.heap.size := by omega
      have xm0 := hBm_1 0 _ rfl
      have xm1 := hBm_1 1 _ rfl
      have xm2 := hBm_1 2 _ rfl
      have xm3 := hBm_1 3 _ rfl
      have xm4 := hBm_1 4 _ rfl
      have xm5 := hBm_1 5 _ rfl
      have xm6 := hBm_1 6 _ rfl
      have xm7 := hBm_1 7 _ rfl
      have xm8 := hBm_1 8 _ rfl
      have xm9 := hBm_1 9 _ rfl
      have fm := hFm_1
      go_wp2
      clear xm0 xm1 xm2 xm3 xm4 xm5 xm6 xm7 xm8 xm9 ym
      clear fm
      have b_0 : Bx (w1.setCell ⟨bm, 4, none⟩ (.bool true)) bm [(.slice (some ⟨g1, o1, none⟩) 4 c1), .int .i64 m.pc, (.slice (some ⟨g2, o2, none⟩) 64 c2), .int .i64 m.save, (.bool true), .bool m.waits, .int .i64 m.halt, (.slice A3 m.ins.length c3), (.slice A4 m.outs.length c4), .int .i64 m.count] := by have := Bx.put hBm_1 (j := 4) (by simp) (.bool true); simpa using this
      have b_1 : Bx ((w1.setCell ⟨bm, 4, none⟩ (.bool true)).setCell ⟨bm, 1, none⟩ (.int .i64 m.save)) bm [(.slice (some ⟨g1, o1, none⟩) 4 c1), (.int .i64 m.save), (.slice (some ⟨g2, o2, none⟩) 64 c2), .int .i64 m.save, (.bool true), .bool m.waits, .int .i64 m.halt, (.slice A3 m.ins.length c3), (.slice A4 m.outs.length c4), .int .i64 m.count] := by have := Bx.put b_0 (j := 1) (by simp) (.int .i64 m.save); simpa using this
      have b_2 : Bx (((w1.setCell ⟨bm, 4, none⟩ (.bool true)).setCell ⟨bm, 1, none⟩ (.int .i64 m.save)).setCell ⟨bm, 9, none⟩ (.int .i64 (m.count + 1))) bm [(.slice (some ⟨g1, o1, none⟩) 4 c1), (.int .i64 m.save), (.slice (some ⟨g2, o2, none⟩) 64 c2), .int .i64 m.save, (.bool true), .bool m.waits, .int .i64 m.halt, (.slice A3 m.ins.length c3), (.slice A4 m.outs.length c4), (.int .i64 (m.count + 1))] := by have := Bx.put b_1 (j := 9) (by simp) (.int .i64 (m.count + 1)); simpa using this
      have hBF : Bx (((w1.setCell ⟨bm, 4, none⟩ (.bool true)).setCell ⟨bm, 1, none⟩ (.int .i64 m.save)).setCell ⟨bm, 9, none⟩ (.int .i64 (m.count + 1))) bm [(.slice (some ⟨g1, o1, none⟩) 4 c1), (.int .i64 m.save), (.slice (some ⟨g2, o2, none⟩) 64 c2), .int .i64 m.save, (.bool true), .bool m.waits, .int .i64 m.halt, (.slice A3 m.ins.length c3), (.slice A4 m.outs.length c4), (.int .i64 (m.count + 1))] := b_2
      have hFF : ∀ oo, (((w1.setCell ⟨bm, 4, none⟩ (.bool true)).setCell ⟨bm, 1, none⟩ (.int .i64 m.save)).setCell ⟨bm, 9, none⟩ (.int .i64 (m.count + 1))).frozen? ⟨bm, oo, none⟩ = false := fz_hold hFm_1
      have hMF : Mach 3 lo X (((w1.setCell ⟨bm, 4, none⟩ (.bool true)).setCell ⟨bm, 1, none⟩ (.int .i64 m.save)).setCell ⟨bm, 9, none⟩ (.int .i64 (m.count + 1))) g1 o1 c1 g2 o2 c2 (.slice A3 m.ins.length c3) (.slice A4 m.outs.length c4) (({ m with lets := true } : MchMach).next m.save) := Mach.dropX (Mach.same ((Mach.far (Mach.far (Mach.far hM0 hbY (p := ⟨bm, 4, none⟩) (.bool true)) hbY (p := ⟨bm, 1, none⟩) (.int .i64 m.save)) hbY (p := ⟨bm, 9, none⟩) (.int .i64 (m.count + 1)))) (m' := (({ m with lets := true } : MchMach).next m.save)) rfl rfl rfl rfl)
      have htF : Turn (bm :: mfoot g1 g2 (.slice A4 m.outs.length c4)) w (((w1.setCell ⟨bm, 4, none⟩ (.bool true)).setCell ⟨bm, 1, none⟩ (.int .i64 m.save)).setCell ⟨bm, 9, none⟩ (.int .i64 (m.count + 1))) := by
        (repeat' (first | (with_reducible exact ht1) | (with_reducible refine Turn.set ?_ ?_ _) | (with_reducible refine Turn.drew ?_)))
        all_goals (refine Or.inl ?_; simp [mfoot])
      (try simp only [Exit.inBlock, Exit.then])
      refine bodyPost_end (results_none rfl _ _ _) rfl ?_
      rw [HV.out]
      refine ⟨rfl, _, _, ?_, hFF, hMF, htF, fun q hq => .inl hq⟩
      show Bx _ bm [_, .int .i64 (m.save % 65536), _, _, _, _, _, _, _, _]
      rw [HM.out]
      exact hBF
    · 
      have HV := hide (show mDo m ⟨0, (D : Int), (a : Int), 2⟩ = (({ m with lets := true } : MchMach).next (m.pc + 1)) by rfl)
      have yi : w.heap.size < w1.heap.size := by omega
      have xi0 := hBi_1 0 _ rfl
      have xi1 := hBi_1 1 _ rfl
      have xi2 := hBi_1 2 _ rfl
      have xi3 := hBi_1 3 _ rfl
      have fi := hFi_1
      have ym : bm < w1.heap.size := by omega
      have xm0 := hBm_1 0 _ rfl
      have xm1 := hBm_1 1 _ rfl
      have xm2 := hBm_1 2 _ rfl
      have xm3 := hBm_1 3 _ rfl
      have xm4 := hBm_1 4 _ rfl
      have xm5 := hBm_1 5 _ rfl
      have xm6 := hBm_1 6 _ rfl
      have xm7 := hBm_1 7 _ rfl
      have xm8 := hBm_1 8 _ rfl
      have xm9 := hBm_1 9 _ rfl
      have fm := hFm_1
      go_wp2
      clear xm0 xm1 xm2 xm3 xm4 xm5 xm6 xm7 xm8 xm9 ym
      clear fm
      have b_0 : Bx (w1.setCell ⟨bm, 4, none⟩ (.bool true)) bm [(.slice (some ⟨g1, o1, none⟩) 4 c1), .int .i64 m.pc, (.slice (some ⟨g2, o2, none⟩) 64 c2), .int .i64 m.save, (.bool true), .bool m.waits, .int .i64 m.halt, (.slice A3 m.ins.length c3), (.slice A4 m.outs.length c4), .int .i64 m.count] := by have := Bx.put hBm_1 (j := 4) (by simp) (.bool true); simpa using this
      have b_1 : Bx ((w1.setCell ⟨bm, 4, none⟩ (.bool true)).setCell ⟨bm, 1, none⟩ (.int .i64 ((m.pc + 1) % 65536))) bm [(.slice (some ⟨g1, o1, none⟩) 4 c1), (.int .i64 ((m.pc + 1) % 65536)), (.slice (some ⟨g2, o2, none⟩) 64 c2), .int .i64 m.save, (.bool true), .bool m.waits, .int .i64 m.halt, (.slice A3 m.ins.length c3), (.slice A4 m.outs.length c4), .int .i64 m.count] := by have := Bx.put b_0 (j := 1) (by simp) (.int .i64 ((m.pc + 1) % 65536)); simpa using this
      have b_2 : Bx (((w1.setCell ⟨bm, 4, none⟩ (.bool true)).setCell ⟨bm, 1, none⟩ (.int .i64 ((m.pc + 1) % 65536))).setCell ⟨bm, 9, none⟩ (.int .i64 (m.count + 1))) bm [(.slice (some ⟨g1, o1, none⟩) 4 c1), (.int .i64 ((m.pc + 1) % 65536)), (.slice (some ⟨g2, o2, none⟩) 64 c2), .int .i64 m.save, (.bool true), .bool m.waits, .int .i64 m.halt, (.slice A3 m.ins.length c3), (.slice A4 m.outs.length c4), (.int .i64 (m.count + 1))] := by have := Bx.put b_1 (j := 9) (by simp) (.int .i64 (m.count + 1)); simpa using this
      have hBF : Bx (((w1.setCell ⟨bm, 4, none⟩ (.bool true)).setCell ⟨bm, 1, none⟩ (.int .i64 ((m.pc + 1) % 65536))).setCell ⟨bm, 9, none⟩ (.int .i64 (m.count + 1))) bm [(.slice (some ⟨g1, o1, none⟩) 4 c1), (.int .i64 ((m.pc + 1) % 65536)), (.slice (some ⟨g2, o2, none⟩) 64 c2), .int .i64 m.save, (.bool true), .bool m.waits, .int .i64 m.halt, (.slice A3 m.ins.length c3), (.slice A4 m.outs.length c4), (.int .i64 (m.count + 1))] := b_2
      have hFF : ∀ oo, (((w1.setCell ⟨bm, 4, none⟩ (.bool true)).setCell ⟨bm, 1, none⟩ (.int .i64 ((m.pc + 1) % 65536))).setCell ⟨bm, 9, none⟩ (.int .i64 (m.count + 1))).frozen? ⟨bm, oo, none⟩ = false := fz_hold hFm_1
      have hMF : Mach 3 lo X (((w1.setCell ⟨bm, 4, none⟩ (.bool true)).setCell ⟨bm, 1, none⟩ (.int .i64 ((m.pc + 1) % 65536))).setCell ⟨bm, 9, none⟩ (.int .i64 (m.count + 1))) g1 o1 c1 g2 o2 c2 (.slice A3 m.ins.length c3) (.slice A4 m.outs.length c4) (({ m with lets := true } : MchMach).next (m.pc + 1)) := Mach.dropX (Mach.same ((Mach.far (Mach.far (Mach.far hM0 hbY (p := ⟨bm, 4, none⟩) (.bool true)) hbY (p := ⟨bm, 1, none⟩) (.int .i64 ((m.pc + 1) % 65536))) hbY (p := ⟨bm, 9, none⟩) (.int .i64 (m.count + 1)))) (m' := (({ m with lets := true } : MchMach).next (m.pc + 1))) rfl rfl rfl rfl)
      have htF : Turn (bm :: mfoot g1 g2 (.slice A4 m.outs.length c4)) w (((w1.setCell ⟨bm, 4, none⟩ (.bool true)).setCell ⟨bm, 1, none⟩ (.int .i64 ((m.pc + 1) % 65536))).setCell ⟨bm, 9, none⟩ (.int .i64 (m.count + 1))) := by
        (repeat' (first | (with_reducible exact ht1) | (with_reducible refine Turn.set ?_ ?_ _) | (with_reducible refine Turn.drew ?_)))
        all_goals (refine Or.inl ?_; simp [mfoot])
      (try simp only [Exit.inBlock, Exit.then])
      refine bodyPost_end (results_none rfl _ _ _) rfl ?_
      rw [HV.out]
      exact ⟨rfl, _, _, hBF, hFF, hMF, htF, fun q hq => .inl hq⟩
    · 
      have HV := hide (show mDo m ⟨0, (D : Int), (a : Int), 3⟩ = (({ m with lets := false } : MchMach).next (m.pc + 1)) by rfl)
      have yi : w.heap.size < w1.heap.size := by omega
      have xi0 := hBi_1 0 _ rfl
      have xi1 := hBi_1 1 _ rfl
      have xi2 := hBi_1 2 _ rfl
      have xi3 := hBi_1 3 _ rfl
      have fi := hFi_1
      have ym : bm < w1.heap.size := by omega
      have xm0 := hBm_1 0 _ rfl
      have xm1 := hBm_1 1 _ rfl
      have xm2 := hBm_1 2 _ rfl
      have xm3 := hBm_1 3 _ rfl
      have xm4 := hBm_1 4 _ rfl
      have xm5 := hBm_1 5 _ rfl
      have xm6 := hBm_1 6 _ rfl
      have xm7 := hBm_1 7 _ rfl
      have xm8 := hBm_1 8 _ rfl
      have xm9 := hBm_1 9 _ rfl
      have fm := hFm_1
      go_wp2
      clear xm0 xm1 xm2 xm3 xm4 xm5 xm6 xm7 xm8 xm9 ym
      clear fm
      have b_0 : Bx (w1.setCell ⟨bm, 4, none⟩ (.bool false)) bm [(.slice (some ⟨g1, o1, none⟩) 4 c1), .int .i64 m.pc, (.slice (some ⟨g2, o2, none⟩) 64 c2), .int .i64 m.save, (.bool false), .bool m.waits, .int .i64 m.halt, (.slice A3 m.ins.length c3), (.slice A4 m.outs.length c4), .int .i64 m.count] := by have := Bx.put hBm_1 (j := 4) (by simp) (.bool false); simpa using this
      have b_1 : Bx ((w1.setCell ⟨bm, 4, none⟩ (.bool false)).setCell ⟨bm, 1, none⟩ (.int .i64 ((m.pc + 1) % 65536))) bm [(.slice (some ⟨g1, o1, none⟩) 4 c1), (.int .i64 ((m.pc + 1) % 65536)), (.slice (some ⟨g2, o2, none⟩) 64 c2), .int .i64 m.save, (.bool false), .bool m.waits, .int .i64 m.halt, (.slice A3 m.ins.length c3), (.slice A4 m.outs.length c4), .int .i64 m.count] := by have := Bx.put b_0 (j := 1) (by simp) (.int .i64 ((m.pc + 1) % 65536)); simpa using this
      have b_2 : Bx (((w1.setCell ⟨bm, 4, none⟩ (.bool false)).setCell ⟨bm, 1, none⟩ (.int .i64 ((m.pc + 1) % 65536))).setCell ⟨bm, 9, none⟩ (.int .i64 (m.count + 1))) bm [(.slice (some ⟨g1, o1, none⟩) 4 c1), (.int .i64 ((m.pc + 1) % 65536)), (.slice (some ⟨g2, o2, none⟩) 64 c2), .int .i64 m.save, (.bool false), .bool m.waits, .int .i64 m.halt, (.slice A3 m.ins.length c3), (.slice A4 m.outs.length c4), (.int .i64 (m.count + 1))] := by have := Bx.put b_1 (j := 9) (by simp) (.int .i64 (m.count + 1)); simpa using this
      have hBF : Bx (((w1.setCell ⟨bm, 4, none⟩ (.bool false)).setCell ⟨bm, 1, none⟩ (.int .i64 ((m.pc + 1) % 65536))).setCell ⟨bm, 9, none⟩ (.int .i64 (m.count + 1))) bm [(.slice (some ⟨g1, o1, none⟩) 4 c1), (.int .i64 ((m.pc + 1) % 65536)), (.slice (some ⟨g2, o2, none⟩) 64 c2), .int .i64 m.save, (.bool false), .bool m.waits, .int .i64 m.halt, (.slice A3 m.ins.length c3), (.slice A4 m.outs.length c4), (.int .i64 (m.count + 1))] := b_2
      have hFF : ∀ oo, (((w1.setCell ⟨bm, 4, none⟩ (.bool false)).setCell ⟨bm, 1, none⟩ (.int .i64 ((m.pc + 1) % 65536))).setCell ⟨bm, 9, none⟩ (.int .i64 (m.count + 1))).frozen? ⟨bm, oo, none⟩ = false := fz_hold hFm_1
      have hMF : Mach 3 lo X (((w1.setCell ⟨bm, 4, none⟩ (.bool false)).setCell ⟨bm, 1, none⟩ (.int .i64 ((m.pc + 1) % 65536))).setCell ⟨bm, 9, none⟩ (.int .i64 (m.count + 1))) g1 o1 c1 g2 o2 c2 (.slice A3 m.ins.length c3) (.slice A4 m.outs.length c4) (({ m with lets := false } : MchMach).next (m.pc + 1)) := Mach.dropX (Mach.same ((Mach.far (Mach.far (Mach.far hM0 hbY (p := ⟨bm, 4, none⟩) (.bool false)) hbY (p := ⟨bm, 1, none⟩) (.int .i64 ((m.pc + 1) % 65536))) hbY (p := ⟨bm, 9, none⟩) (.int .i64 (m.count + 1)))) (m' := (({ m with lets := false } : MchMach).next (m.pc + 1))) rfl rfl rfl rfl)
      have htF : Turn (bm :: mfoot g1 g2 (.slice A4 m.outs.length c4)) w (((w1.setCell ⟨bm, 4, none⟩ (.bool false)).setCell ⟨bm, 1, none⟩ (.int .i64 ((m.pc + 1) % 65536))).setCell ⟨bm, 9, none⟩ (.int .i64 (m.count + 1))) := by
        (repeat' (first | (with_reducible exact ht1) | (with_reducible refine Turn.set ?_ ?_ _) | (with_reducible refine Turn.drew ?_)))
        all_goals (refine Or.inl ?_; simp [mfoot])
      (try simp only [Exit.inBlock, Exit.then])
      refine bodyPost_end (results_none rfl _ _ _) rfl ?_
      rw [HV.out]
      exact ⟨rfl, _, _, hBF, hFF, hMF, htF, fun q hq => .inl hq⟩
  · 
    have HV := hide (show (mDo m ⟨1, (D : Int), (a : Int), k⟩) = ((m.setR (D : Int) k).next (m.pc + 1)) by rfl)
    have yi : w.heap.size < w1.heap.size := by omega
    have xi0 := hBi_1 0 _ rfl
    have xi1 := hBi_1 1 _ rfl
    have xi2 := hBi_1 2 _ rfl
    have xi3 := hBi_1 3 _ rfl
    have fi := hFi_1
    have ym : bm < w1.heap.size := by omega
    have xm0 := hBm_1 0 _ rfl
    have xm1 := hBm_1 1 _ rfl
    have xm2 := hBm_1 2 _ rfl
    have xm3 := hBm_1 3 _ rfl
    have xm4 := hBm_1 4 _ rfl
    have xm5 := hBm_1 5 _ rfl
    have xm6 := hBm_1 6 _ rfl
    have xm7 := hBm_1 7 _ rfl
    have xm8 := hBm_1 8 _ rfl
    have xm9 := hBm_1 9 _ rfl
    have fm := hFm_1
    go_wp2
    clear xm0 xm1 xm2 xm3 xm4 xm5 xm6 xm7 xm8 xm9 ym
    clear fm
    have b_0 : Bx (w1.setCell ⟨g1, o1 + D, none⟩ (.int .i64 k)) bm [(.slice (some ⟨g1, o1, none⟩) 4 c1), .int .i64 m.pc, (.slice (some ⟨g2, o2, none⟩) 64 c2), .int .i64 m.save, .bool m.lets, .bool m.waits, .int .i64 m.halt, (.slice A3 m.ins.length c3), (.slice A4 m.outs.length c4), .int .i64 m.count] := hBm_1.setCell (by show g1 ≠ bm; omega) _
    have b_1 : Bx ((w1.setCell ⟨g1, o1 + D, none⟩ (.int .i64 k)).setCell ⟨bm, 1, none⟩ (.int .i64 ((m.pc + 1) % 65536))) bm [(.slice (some ⟨g1, o1, none⟩) 4 c1), (.int .i64 ((m.pc + 1) % 65536)), (.slice (some ⟨g2, o2, none⟩) 64 c2), .int .i64 m.save, .bool m.lets, .bool m.waits, .int .i64 m.halt, (.slice A3 m.ins.length c3), (.slice A4 m.outs.length c4), .int .i64 m.count] := by have := Bx.put b_0 (j := 1) (by simp) (.int .i64 ((m.pc + 1) % 65536)); simpa using this
    have b_2 : Bx (((w1.setCell ⟨g1, o1 + D, none⟩ (.int .i64 k)).setCell ⟨bm, 1, none⟩ (.int .i64 ((m.pc + 1) % 65536))).setCell ⟨bm, 9, none⟩ (.int .i64 (m.count + 1))) bm [(.slice (some ⟨g1, o1, none⟩) 4 c1), (.int .i64 ((m.pc + 1) % 65536)), (.slice (some ⟨g2, o2, none⟩) 64 c2), .int .i64 m.save, .bool m.lets, .bool m.waits, .int .i64 m.halt, (.slice A3 m.ins.length c3), (.slice A4 m.outs.length c4), (.int .i64 (m.count + 1))] := by have := Bx.put b_1 (j := 9) (by simp) (.int .i64 (m.count + 1)); simpa using this
    have hBF : Bx (((w1.setCell ⟨g1, o1 + D, none⟩ (.int .i64 k)).setCell ⟨bm, 1, none⟩ (.int .i64 ((m.pc + 1) % 65536))).setCell ⟨bm, 9, none⟩ (.int .i64 (m.count + 1))) bm [(.slice (some ⟨g1, o1, none⟩) 4 c1), (.int .i64 ((m.pc + 1) % 65536)), (.slice (some ⟨g2, o2, none⟩) 64 c2), .int .i64 m.save, .bool m.lets, .bool m.waits, .int .i64 m.halt, (.slice A3 m.ins.length c3), (.slice A4 m.outs.length c4), (.int .i64 (m.count + 1))] := b_2
    have hFF : ∀ oo, (((w1.setCell ⟨g1, o1 + D, none⟩ (.int .i64 k)).setCell ⟨bm, 1, none⟩ (.int .i64 ((m.pc + 1) % 65536))).setCell ⟨bm, 9, none⟩ (.int .i64 (m.count + 1))).frozen? ⟨bm, oo, none⟩ = false := fz_hold hFm_1
    have hMF : Mach 3 lo X (((w1.setCell ⟨g1, o1 + D, none⟩ (.int .i64 k)).setCell ⟨bm, 1, none⟩ (.int .i64 ((m.pc + 1) % 65536))).setCell ⟨bm, 9, none⟩ (.int .i64 (m.count + 1))) g1 o1 c1 g2 o2 c2 (.slice A3 m.ins.length c3) (.slice A4 m.outs.length c4) ((m.setR (D : Int) k).next (m.pc + 1)) := Mach.dropX (Mach.same ((Mach.far (Mach.far (Mach.setReg hM0 hD (n := k) ⟨by omega, by omega⟩) hbY (p := ⟨bm, 1, none⟩) (.int .i64 ((m.pc + 1) % 65536))) hbY (p := ⟨bm, 9, none⟩) (.int .i64 (m.count + 1)))) (m' := ((m.setR (D : Int) k).next (m.pc + 1))) rfl rfl rfl rfl)
    have htF : Turn (bm :: mfoot g1 g2 (.slice A4 m.outs.length c4)) w (((w1.setCell ⟨g1, o1 + D, none⟩ (.int .i64 k)).setCell ⟨bm, 1, none⟩ (.int .i64 ((m.pc + 1) % 65536))).setCell ⟨bm, 9, none⟩ (.int .i64 (m.count + 1))) := by
      (repeat' (first | (with_reducible exact ht1) | (with_reducible refine Turn.set ?_ ?_ _) | (with_reducible refine Turn.drew ?_)))
      all_goals (refine Or.inl ?_; simp [mfoot])
    (try simp only [Exit.inBlock, Exit.then])
    refine bodyPost_end (results_none rfl _ _ _) rfl ?_
    rw [HV.out]
    exact ⟨rfl, _, _, hBF, hFF, hMF, htF, fun q hq => .inl hq⟩
  · 
    have HV := hide (show (mDo m ⟨2, (D : Int), (a : Int), k⟩) = ((m.setR (D : Int) (m.reg (a : Int))).next (m.pc + 1)) by rfl)
    have yi : w.heap.size < w1.heap.size := by omega
    have xi0 := hBi_1 0 _ rfl
    have xi1 := hBi_1 1 _ rfl
    have xi2 := hBi_1 2 _ rfl
    have xi3 := hBi_1 3 _ rfl
    have fi := hFi_1
    have ym : bm < w1.heap.size := by omega
    have xm0 := hBm_1 0 _ rfl
    have xm1 := hBm_1 1 _ rfl
    have xm2 := hBm_1 2 _ rfl
    have xm3 := hBm_1 3 _ rfl
    have xm4 := hBm_1 4 _ rfl
    have xm5 := hBm_1 5 _ rfl
    have xm6 := hBm_1 6 _ rfl
    have xm7 := hBm_1 7 _ rfl
    have xm8 := hBm_1 8 _ rfl
    have xm9 := hBm_1 9 _ rfl
    have fm := hFm_1
    go_wp2
    clear xm0 xm1 xm2 xm3 xm4 xm5 xm6 xm7 xm8 xm9 ym
    clear fm
    have b_0 : Bx (w1.setCell ⟨g1, o1 + D, none⟩ (.int .i64 (m.reg (a : Int)))) bm [(.slice (some ⟨g1, o1, none⟩) 4 c1), .int .i64 m.pc, (.slice (some ⟨g2, o2, none⟩) 64 c2), .int .i64 m.save, .bool m.lets, .bool m.waits, .int .i64 m.halt, (.slice A3 m.ins.length c3), (.slice A4 m.outs.length c4), .int .i64 m.count] := hBm_1.setCell (by show g1 ≠ bm; omega) _
    have b_1 : Bx ((w1.setCell ⟨g1, o1 + D, none⟩ (.int .i64 (m.reg (a : Int)))).setCell ⟨bm, 1, none⟩ (.int .i64 ((m.pc + 1) % 65536))) bm [(.slice (some ⟨g1, o1, none⟩) 4 c1), (.int .i64 ((m.pc + 1) % 65536)), (.slice (some ⟨g2, o2, none⟩) 64 c2), .int .i64 m.save, .bool m.lets, .bool m.waits, .int .i64 m.halt, (.slice A3 m.ins.length c3), (.slice A4 m.outs.length c4), .int .i64 m.count] := by have := Bx.put b_0 (j := 1) (by simp) (.int .i64 ((m.pc + 1) % 65536)); simpa using this
    have b_2 : Bx (((w1.setCell ⟨g1, o1 + D, none⟩ (.int .i64 (m.reg (a : Int)))).setCell ⟨bm, 1, none⟩ (.int .i64 ((m.pc + 1) % 65536))).setCell ⟨bm, 9, none⟩ (.int .i64 (m.count + 1))) bm [(.slice (some ⟨g1, o1, none⟩) 4 c1), (.int .i64 ((m.pc + 1) % 65536)), (.slice (some ⟨g2, o2, none⟩) 64 c2), .int .i64 m.save, .bool m.lets, .bool m.waits, .int .i64 m.halt, (.slice A3 m.ins.length c3), (.slice A4 m.outs.length c4), (.int .i64 (m.count + 1))] := by have := Bx.put b_1 (j := 9) (by simp) (.int .i64 (m.count + 1)); simpa using this
    have hBF : Bx (((w1.setCell ⟨g1, o1 + D, none⟩ (.int .i64 (m.reg (a : Int)))).setCell ⟨bm, 1, none⟩ (.int .i64 ((m.pc + 1) % 65536))).setCell ⟨bm, 9, none⟩ (.int .i64 (m.count + 1))) bm [(.slice (some ⟨g1, o1, none⟩) 4 c1), (.int .i64 ((m.pc + 1) % 65536)), (.slice (some ⟨g2, o2, none⟩) 64 c2), .int .i64 m.save, .bool m.lets, .bool m.waits, .int .i64 m.halt, (.slice A3 m.ins.length c3), (.slice A4 m.outs.length c4), (.int .i64 (m.count + 1))] := b_2
    have hFF : ∀ oo, (((w1.setCell ⟨g1, o1 + D, none⟩ (.int .i64 (m.reg (a : Int)))).setCell ⟨bm, 1, none⟩ (.int .i64 ((m.pc + 1) % 65536))).setCell ⟨bm, 9, none⟩ (.int .i64 (m.count + 1))).frozen? ⟨bm, oo, none⟩ = false := fz_hold hFm_1
    have hMF : Mach 3 lo X (((w1.setCell ⟨g1, o1 + D, none⟩ (.int .i64 (m.reg (a : Int)))).setCell ⟨bm, 1, none⟩ (.int .i64 ((m.pc + 1) % 65536))).setCell ⟨bm, 9, none⟩ (.int .i64 (m.count + 1))) g1 o1 c1 g2 o2 c2 (.slice A3 m.ins.length c3) (.slice A4 m.outs.length c4) ((m.setR (D : Int) (m.reg (a : Int))).next (m.pc + 1)) := Mach.dropX (Mach.same ((Mach.far (Mach.far (Mach.setReg hM0 hD (n := (m.reg (a : Int))) ⟨by omega, by omega⟩) hbY (p := ⟨bm, 1, none⟩) (.int .i64 ((m.pc + 1) % 65536))) hbY (p := ⟨bm, 9, none⟩) (.int .i64 (m.count + 1)))) (m' := ((m.setR (D : Int) (m.reg (a : Int))).next (m.pc + 1))) rfl rfl rfl rfl)
    have htF : Turn (bm :: mfoot g1 g2 (.slice A4 m.outs.length c4)) w (((w1.setCell ⟨g1, o1 + D, none⟩ (.int .i64 (m.reg (a : Int)))).setCell ⟨bm, 1, none⟩ (.int .i64 ((m.pc + 1) % 65536))).setCell ⟨bm, 9, none⟩ (.int .i64 (m.count + 1))) := by
      (repeat' (first | (with_reducible exact ht1) | (with_reducible refine Turn.set ?_ ?_ _) | (with_reducible refine Turn.drew ?_)))
      all_goals (refine Or.inl ?_; simp [mfoot])
    (try simp only [Exit.inBlock, Exit.then])
    refine bodyPost_end (results_none rfl _ _ _) rfl ?_
    rw [HV.out]
    exact ⟨rfl, _, _, hBF, hFF, hMF, htF, fun q hq => .inl hq⟩
  · 
    obtain ⟨k, rfl⟩ := Int.eq_ofNat_of_zero_le hk0
    have hk16 : k < 16 := by have := hk8 rfl; omega
    have hdw := dbl_word hb0 hb1 k
    have HSH := hide (show wrap64 (m.reg (a : Int) * 2 ^ k) % 65536 = dbl (m.reg (a : Int)) k from shl_dbl hb0 hb1 hk16)
    have HV := hide (show mDo m ⟨8, (D : Int), (a : Int), (k : Int)⟩ = ((m.setR (D : Int) (dbl (m.reg (a : Int)) k)).next (m.pc + 1)) by rfl)
    have yi : w.heap.size < w1.heap.size := by omega
    have xi0 := hBi_1 0 _ rfl
    have xi1 := hBi_1 1 _ rfl
    have xi2 := hBi_1 2 _ rfl
    have xi3 := hBi_1 3 _ rfl
    have fi := hFi_1
    have ym : bm < w1.heap.size := by omega
    have xm0 := hBm_1 0 _ rfl
    have xm1 := hBm_1 1 _ rfl
    have xm2 := hBm_1 2 _ rfl
    have xm3 := hBm_1 3 _ rfl
    have xm4 := hBm_1 4 _ rfl
    have xm5 := hBm_1 5 _ rfl
    have xm6 := hBm_1 6 _ rfl
    have xm7 := hBm_1 7 _ rfl
    have xm8 := hBm_1 8 _ rfl
    have xm9 := hBm_1 9 _ rfl
    have fm := hFm_1
    go_wp2_with (go_at_call 77; refine (implWrap_any _ _).mono ?_; rintro e w' ⟨he, rfl⟩; rw [HSH.out] at he; subst he)
    clear xm0 xm1 xm2 xm3 xm4 xm5 xm6 xm7 xm8 xm9 ym
    clear fm
    have b_0 : Bx (w1.setCell ⟨g1, o1 + D, none⟩ (.int .i64 (dbl (m.reg (a : Int)) k))) bm [(.slice (some ⟨g1, o1, none⟩) 4 c1), .int .i64 m.pc, (.slice (some ⟨g2, o2, none⟩) 64 c2), .int .i64 m.save, .bool m.lets, .bool m.waits, .int .i64 m.halt, (.slice A3 m.ins.length c3), (.slice A4 m.outs.length c4), .int .i64 m.count] := hBm_1.setCell (by show g1 ≠ bm; omega) _
    have b_1 : Bx ((w1.setCell ⟨g1, o1 + D, none⟩ (.int .i64 (dbl (m.reg (a : Int)) k))).setCell ⟨bm, 1, none⟩ (.int .i64 ((m.pc + 1) % 65536))) bm [(.slice (some ⟨g1, o1, none⟩) 4 c1), (.int .i64 ((m.pc + 1) % 65536)), (.slice (some ⟨g2, o2, none⟩) 64 c2), .int .i64 m.save, .bool m.lets, .bool m.waits, .int .i64 m.halt, (.slice A3 m.ins.length c3), (.slice A4 m.outs.length c4), .int .i64 m.count] := by have := Bx.put b_0 (j := 1) (by simp) (.int .i64 ((m.pc + 1) % 65536)); simpa using this
    have b_2 : Bx (((w1.setCell ⟨g1, o1 + D, none⟩ (.int .i64 (dbl (m.reg (a : Int)) k))).setCell ⟨bm, 1, none⟩ (.int .i64 ((m.pc + 1) % 65536))).setCell ⟨bm, 9, none⟩ (.int .i64 (m.count + 1))) bm [(.slice (some ⟨g1, o1, none⟩) 4 c1), (.int .i64 ((m.pc + 1) % 65536)), (.slice (some ⟨g2, o2, none⟩) 64 c2), .int .i64 m.save, .bool m.lets, .bool m.waits, .int .i64 m.halt, (.slice A3 m.ins.length c3), (.slice A4 m.outs.length c4), (.int .i64 (m.count + 1))] := by have := Bx.put b_1 (j := 9) (by simp) (.int .i64 (m.count + 1)); simpa using this
    have hBF : Bx (((w1.setCell ⟨g1, o1 + D, none⟩ (.int .i64 (dbl (m.reg (a : Int)) k))).setCell ⟨bm, 1, none⟩ (.int .i64 ((m.pc + 1) % 65536))).setCell ⟨bm, 9, none⟩ (.int .i64 (m.count + 1))) bm [(.slice (some ⟨g1, o1, none⟩) 4 c1), (.int .i64 ((m.pc + 1) % 65536)), (.slice (some ⟨g2, o2, none⟩) 64 c2), .int .i64 m.save, .bool m.lets, .bool m.waits, .int .i64 m.halt, (.slice A3 m.ins.length c3), (.slice A4 m.outs.length c4), (.int .i64 (m.count + 1))] := b_2
    have hFF : ∀ oo, (((w1.setCell ⟨g1, o1 + D, none⟩ (.int .i64 (dbl (m.reg (a : Int)) k))).setCell ⟨bm, 1, none⟩ (.int .i64 ((m.pc + 1) % 65536))).setCell ⟨bm, 9, none⟩ (.int .i64 (m.count + 1))).frozen? ⟨bm, oo, none⟩ = false := fz_hold hFm_1
    have hMF : Mach 3 lo X (((w1.setCell ⟨g1, o1 + D, none⟩ (.int .i64 (dbl (m.reg (a : Int)) k))).setCell ⟨bm, 1, none⟩ (.int .i64 ((m.pc + 1) % 65536))).setCell ⟨bm, 9, none⟩ (.int .i64 (m.count + 1))) g1 o1 c1 g2 o2 c2 (.slice A3 m.ins.length c3) (.slice A4 m.outs.length c4) ((m.setR (D : Int) (dbl (m.reg (a : Int)) k)).next (m.pc + 1)) := Mach.dropX (Mach.same ((Mach.far (Mach.far (Mach.setReg hM0 hD (n := (dbl (m.reg (a : Int)) k)) ⟨by omega, by omega⟩) hbY (p := ⟨bm, 1, none⟩) (.int .i64 ((m.pc + 1) % 65536))) hbY (p := ⟨bm, 9, none⟩) (.int .i64 (m.count + 1)))) (m' := ((m.setR (D : Int) (dbl (m.reg (a : Int)) k)).next (m.pc + 1))) rfl rfl rfl rfl)
    have htF : Turn (bm :: mfoot g1 g2 (.slice A4 m.outs.length c4)) w (((w1.setCell ⟨g1, o1 + D, none⟩ (.int .i64 (dbl (m.reg (a : Int)) k))).setCell ⟨bm, 1, none⟩ (.int .i64 ((m.pc + 1) % 65536))).setCell ⟨bm, 9, none⟩ (.int .i64 (m.count + 1))) := by
      (repeat' (first | (with_reducible exact ht1) | (with_reducible refine Turn.set ?_ ?_ _) | (with_reducible refine Turn.drew ?_)))
      all_goals (refine Or.inl ?_; simp [mfoot])
    (try simp only [Exit.inBlock, Exit.then])
    refine bodyPost_end (results_none rfl _ _ _) rfl ?_
    rw [HV.out]
    exact ⟨rfl, _, _, hBF, hFF, hMF, htF, fun q hq => .inl hq⟩
  · 
    by_cases h64 : 64 ≤ Q
    · 
      have q1 : decide (64 ≤ (Q : Int)) = true := decide_eq_true (by omega)
      have HV := hide (show (mDo m ⟨9, (D : Int), (a : Int), k⟩) = ({ m with halt := 3 } : MchMach) by show mReach m _ = _; unfold mReach; simp only [hQ.out]; rw [if_pos (by omega)])
      have yi : w.heap.size < w1.heap.size := by omega
      have xi0 := hBi_1 0 _ rfl
      have xi1 := hBi_1 1 _ rfl
      have xi2 := hBi_1 2 _ rfl
      have xi3 := hBi_1 3 _ rfl
      have fi := hFi_1
      have ym : bm < w1.heap.size := by omega
      have xm0 := hBm_1 0 _ rfl
      have xm1 := hBm_1 1 _ rfl
      have xm2 := hBm_1 2 _ rfl
      have xm3 := hBm_1 3 _ rfl
      have xm4 := hBm_1 4 _ rfl
      have xm5 := hBm_1 5 _ rfl
      have xm6 := hBm_1 6 _ rfl
      have xm7 := hBm_1 7 _ rfl
      have xm8 := hBm_1 8 _ rfl
      have xm9 := hBm_1 9 _ rfl
      have fm := hFm_1
      go_wp2
      clear xm0 xm1 xm2 xm3 xm4 xm5 xm6 xm7 xm8 xm9 ym
      clear fm
      have b_0 : Bx (w1.setCell ⟨bm, 6, none⟩ (.int .i64 3)) bm [(.slice (some ⟨g1, o1, none⟩) 4 c1), .int .i64 m.pc, (.slice (some ⟨g2, o2, none⟩) 64 c2), .int .i64 m.save, .bool m.lets, .bool m.waits, (.int .i64 3), (.slice A3 m.ins.length c3), (.slice A4 m.outs.length c4), .int .i64 m.count] := by have := Bx.put hBm_1 (j := 6) (by simp) (.int .i64 3); simpa using this
      have hBF : Bx (w1.setCell ⟨bm, 6, none⟩ (.int .i64 3)) bm [(.slice (some ⟨g1, o1, none⟩) 4 c1), .int .i64 m.pc, (.slice (some ⟨g2, o2, none⟩) 64 c2), .int .i64 m.save, .bool m.lets, .bool m.waits, (.int .i64 3), (.slice A3 m.ins.length c3), (.slice A4 m.outs.length c4), .int .i64 m.count] := b_0
      have hFF : ∀ oo, (w1.setCell ⟨bm, 6, none⟩ (.int .i64 3)).frozen? ⟨bm, oo, none⟩ = false := fz_hold hFm_1
      have hMF : Mach 3 lo X (w1.setCell ⟨bm, 6, none⟩ (.int .i64 3)) g1 o1 c1 g2 o2 c2 (.slice A3 m.ins.length c3) (.slice A4 m.outs.length c4) ({ m with halt := 3 } : MchMach) := Mach.dropX (Mach.same ((Mach.far hM0 hbY (p := ⟨bm, 6, none⟩) (.int .i64 3))) (m' := ({ m with halt := 3 } : MchMach)) rfl rfl rfl rfl)
      have htF : Turn (bm :: mfoot g1 g2 (.slice A4 m.outs.length c4)) w (w1.setCell ⟨bm, 6, none⟩ (.int .i64 3)) := by
        (repeat' (first | (with_reducible exact ht1) | (with_reducible refine Turn.set ?_ ?_ _) | (with_reducible refine Turn.drew ?_)))
        all_goals (refine Or.inl ?_; simp [mfoot])
      (try simp only [Exit.inBlock, Exit.then])
      refine bodyPost_ret (results_none rfl _ _ _) rfl ?_
      rw [HV.out]
      exact ⟨rfl, _, _, hBF, hFF, hMF, htF, fun q hq => .inl hq⟩
    · 
      have hQ6 : Q < 64 := by omega
      have q1 : decide (64 ≤ (Q : Int)) = false := decide_eq_false (by omega)
      have z5 : (Q : Int) < 64 := by omega
      have rQ := hM0.memAt hQ6
      have hw0 := (hk.word (Q : Int)).1
      have hw1 := (hk.word (Q : Int)).2
      have HV := hide (show (mDo m ⟨9, (D : Int), (a : Int), k⟩) = ((m.setR (D : Int) (m.word (Q : Int))).next (m.pc + 1)) by show mReach m _ = _; unfold mReach; simp only [hQ.out]; rw [if_neg (by omega), if_pos trivial])
      have yi : w.heap.size < w1.heap.size := by omega
      have xi0 := hBi_1 0 _ rfl
      have xi1 := hBi_1 1 _ rfl
      have xi2 := hBi_1 2 _ rfl
      have xi3 := hBi_1 3 _ rfl
      have fi := hFi_1
      have ym : bm < w1.heap.size := by omega
      have xm0 := hBm_1 0 _ rfl
      have xm1 := hBm_1 1 _ rfl
      have xm2 := hBm_1 2 _ rfl
      have xm3 := hBm_1 3 _ rfl
      have xm4 := hBm_1 4 _ rfl
      have xm5 := hBm_1 5 _ rfl
      have xm6 := hBm_1 6 _ rfl
      have xm7 := hBm_1 7 _ rfl
      have xm8 := hBm_1 8 _ rfl
      have xm9 := hBm_1 9 _ rfl
      have fm := hFm_1
      go_wp2
      clear xm0 xm1 xm2 xm3 xm4 xm5 xm6 xm7 xm8 xm9 ym
      clear fm
      have b_0 : Bx (w1.setCell ⟨g1, o1 + D, none⟩ (.int .i64 (m.word (Q : Int)))) bm [(.slice (some ⟨g1, o1, none⟩) 4 c1), .int .i64 m.pc, (.slice (some ⟨g2, o2, none⟩) 64 c2), .int .i64 m.save, .bool m.lets, .bool m.waits, .int .i64 m.halt, (.slice A3 m.ins.length c3), (.slice A4 m.outs.length c4), .int .i64 m.count] := hBm_1.setCell (by show g1 ≠ bm; omega) _
      have b_1 : Bx ((w1.setCell ⟨g1, o1 + D, none⟩ (.int .i64 (m.word (Q : Int)))).setCell ⟨bm, 1, none⟩ (.int .i64 ((m.pc + 1) % 65536))) bm [(.slice (some ⟨g1, o1, none⟩) 4 c1), (.int .i64 ((m.pc + 1) % 65536)), (.slice (some ⟨g2, o2, none⟩) 64 c2), .int .i64 m.save, .bool m.lets, .bool m.waits, .int .i64 m.halt, (.slice A3 m.ins.length c3), (.slice A4 m.outs.length c4), .int .i64 m.count] := by have := Bx.put b_0 (j := 1) (by simp) (.int .i64 ((m.pc + 1) % 65536)); simpa using this
      have b_2 : Bx (((w1.setCell ⟨g1, o1 + D, none⟩ (.int .i64 (m.word (Q : Int)))).setCell ⟨bm, 1, none⟩ (.int .i64 ((m.pc + 1) % 65536))).setCell ⟨bm, 9, none⟩ (.int .i64 (m.count + 1))) bm [(.slice (some ⟨g1, o1, none⟩) 4 c1), (.int .i64 ((m.pc + 1) % 65536)), (.slice (some ⟨g2, o2, none⟩) 64 c2), .int .i64 m.save, .bool m.lets, .bool m.waits, .int .i64 m.halt, (.slice A3 m.ins.length c3), (.slice A4 m.outs.length c4), (.int .i64 (m.count + 1))] := by have := Bx.put b_1 (j := 9) (by simp) (.int .i64 (m.count + 1)); simpa using this
      have hBF : Bx (((w1.setCell ⟨g1, o1 + D, none⟩ (.int .i64 (m.word (Q : Int)))).setCell ⟨bm, 1, none⟩ (.int .i64 ((m.pc + 1) % 65536))).setCell ⟨bm, 9, none⟩ (.int .i64 (m.count + 1))) bm [(.slice (some ⟨g1, o1, none⟩) 4 c1), (.int .i64 ((m.pc + 1) % 65536)), (.slice (some ⟨g2, o2, none⟩) 64 c2), .int .i64 m.save, .bool m.lets, .bool m.waits, .int .i64 m.halt, (.slice A3 m.ins.length c3), (.slice A4 m.outs.length c4), (.int .i64 (m.count + 1))] := b_2
      have hFF : ∀ oo, (((w1.setCell ⟨g1, o1 + D, none⟩ (.int .i64 (m.word (Q : Int)))).setCell ⟨bm, 1, none⟩ (.int .i64 ((m.pc + 1) % 65536))).setCell ⟨bm, 9, none⟩ (.int .i64 (m.count + 1))).frozen? ⟨bm, oo, none⟩ = false := fz_hold hFm_1
      have hMF : Mach 3 lo X (((w1.setCell ⟨g1, o1 + D, none⟩ (.int .i64 (m.word (Q : Int)))).setCell ⟨bm, 1, none⟩ (.int .i64 ((m.pc + 1) % 65536))).setCell ⟨bm, 9, none⟩ (.int .i64 (m.count + 1))) g1 o1 c1 g2 o2 c2 (.slice A3 m.ins.length c3) (.slice A4 m.outs.length c4) ((m.setR (D : Int) (m.word (Q : Int))).next (m.pc + 1)) := Mach.dropX (Mach.same ((Mach.far (Mach.far (Mach.setReg hM0 hD (n := (m.word (Q : Int))) ⟨by omega, by omega⟩) hbY (p := ⟨bm, 1, none⟩) (.int .i64 ((m.pc + 1) % 65536))) hbY (p := ⟨bm, 9, none⟩) (.int .i64 (m.count + 1)))) (m' := ((m.setR (D : Int) (m.word (Q : Int))).next (m.pc + 1))) rfl rfl rfl rfl)
      have htF : Turn (bm :: mfoot g1 g2 (.slice A4 m.outs.length c4)) w (((w1.setCell ⟨g1, o1 + D, none⟩ (.int .i64 (m.word (Q : Int)))).setCell ⟨bm, 1, none⟩ (.int .i64 ((m.pc + 1) % 65536))).setCell ⟨bm, 9, none⟩ (.int .i64 (m.count + 1))) := by
        (repeat' (first | (with_reducible exact ht1) | (with_reducible refine Turn.set ?_ ?_ _) | (with_reducible refine Turn.drew ?_)))
        all_goals (refine Or.inl ?_; simp [mfoot])
      (try simp only [Exit.inBlock, Exit.then])
      refine bodyPost_end (results_none rfl _ _ _) rfl ?_
      rw [HV.out]
      exact ⟨rfl, _, _, hBF, hFF, hMF, htF, fun q hq => .inl hq⟩
  · 
    by_cases h64 : 64 ≤ Q
    · 
      have q1 : decide (64 ≤ (Q : Int)) = true := decide_eq_true (by omega)
      have HV := hide (show (mDo m ⟨10, (D : Int), (a : Int), k⟩) = ({ m with halt := 3 } : MchMach) by show mReach m _ = _; unfold mReach; simp only [hQ.out]; rw [if_pos (by omega)])
      have yi : w.heap.size < w1.heap.size := by omega
      have xi0 := hBi_1 0 _ rfl
      have xi1 := hBi_1 1 _ rfl
      have xi2 := hBi_1 2 _ rfl
      have xi3 := hBi_1 3 _ rfl
      have fi := hFi_1
      have ym : bm < w1.heap.size := by omega
      have xm0 := hBm_1 0 _ rfl
      have xm1 := hBm_1 1 _ rfl
      have xm2 := hBm_1 2 _ rfl
      have xm3 := hBm_1 3 _ rfl
      have xm4 := hBm_1 4 _ rfl
      have xm5 := hBm_1 5 _ rfl
      have xm6 := hBm_1 6 _ rfl
      have xm7 := hBm_1 7 _ rfl
      have xm8 := hBm_1 8 _ rfl
      have xm9 := hBm_1 9 _ rfl
      have fm := hFm_1
      go_wp2
      clear xm0 xm1 xm2 xm3 xm4 xm5 xm6 xm7 xm8 xm9 ym
      clear fm
      have b_0 : Bx (w1.setCell ⟨bm, 6, none⟩ (.int .i64 3)) bm [(.slice (some ⟨g1, o1, none⟩) 4 c1), .int .i64 m.pc, (.slice (some ⟨g2, o2, none⟩) 64 c2), .int .i64 m.save, .bool m.lets, .bool m.waits, (.int .i64 3), (.slice A3 m.ins.length c3), (.slice A4 m.outs.length c4), .int .i64 m.count] := by have := Bx.put hBm_1 (j := 6) (by simp) (.int .i64 3); simpa using this
      have hBF : Bx (w1.setCell ⟨bm, 6, none⟩ (.int .i64 3)) bm [(.slice (some ⟨g1, o1, none⟩) 4 c1), .int .i64 m.pc, (.slice (some ⟨g2, o2, none⟩) 64 c2), .int .i64 m.save, .bool m.lets, .bool m.waits, (.int .i64 3), (.slice A3 m.ins.length c3), (.slice A4 m.outs.length c4), .int .i64 m.count] := b_0
      have hFF : ∀ oo, (w1.setCell ⟨bm, 6, none⟩ (.int .i64 3)).frozen? ⟨bm, oo, none⟩ = false := fz_hold hFm_1
      have hMF : Mach 3 lo X (w1.setCell ⟨bm, 6, none⟩ (.int .i64 3)) g1 o1 c1 g2 o2 c2 (.slice A3 m.ins.length c3) (.slice A4 m.outs.length c4) ({ m with halt := 3 } : MchMach) := Mach.dropX (Mach.same ((Mach.far hM0 hbY (p := ⟨bm, 6, none⟩) (.int .i64 3))) (m' := ({ m with halt := 3 } : MchMach)) rfl rfl rfl rfl)
      have htF : Turn (bm :: mfoot g1 g2 (.slice A4 m.outs.length c4)) w (w1.setCell ⟨bm, 6, none⟩ (.int .i64 3)) := by
        (repeat' (first | (with_reducible exact ht1) | (with_reducible refine Turn.set ?_ ?_ _) | (with_reducible refine Turn.drew ?_)))
        all_goals (refine Or.inl ?_; simp [mfoot])
      (try simp only [Exit.inBlock, Exit.then])
      refine bodyPost_ret (results_none rfl _ _ _) rfl ?_
      rw [HV.out]
      exact ⟨rfl, _, _, hBF, hFF, hMF, htF, fun q hq => .inl hq⟩
    · 
      have hQ6 : Q < 64 := by omega
      have q1 : decide (64 ≤ (Q : Int)) = false := decide_eq_false (by omega)
      have z5 : (Q : Int) < 64 := by omega
      have rQ := hM0.memAt hQ6
      have hw0 := (hk.word (Q : Int)).1
      have hw1 := (hk.word (Q : Int)).2
      have HV := hide (show (mDo m ⟨10, (D : Int), (a : Int), k⟩) = (({ m with mem := m.mem.set Q (m.reg (D : Int)) } : MchMach).next (m.pc + 1)) by show mReach m _ = _; unfold mReach; simp only [hQ.out]; rw [if_neg (by omega), if_neg (by omega)]; rfl)
      have yi : w.heap.size < w1.heap.size := by omega
      have xi0 := hBi_1 0 _ rfl
      have xi1 := hBi_1 1 _ rfl
      have xi2 := hBi_1 2 _ rfl
      have xi3 := hBi_1 3 _ rfl
      have fi := hFi_1
      have ym : bm < w1.heap.size := by omega
      have xm0 := hBm_1 0 _ rfl
      have xm1 := hBm_1 1 _ rfl
      have xm2 := hBm_1 2 _ rfl
      have xm3 := hBm_1 3 _ rfl
      have xm4 := hBm_1 4 _ rfl
      have xm5 := hBm_1 5 _ rfl
      have xm6 := hBm_1 6 _ rfl
      have xm7 := hBm_1 7 _ rfl
      have xm8 := hBm_1 8 _ rfl
      have xm9 := hBm_1 9 _ rfl
      have fm := hFm_1
      go_upto_region 24 with fail
      have hS : ∀ w', Ext w1 w' → ∀ bb oo, bb < w1.heap.size → w'.cell? ⟨bb, oo, none⟩ = w1.cell? ⟨bb, oo, none⟩ := fun w' hx bb oo hb => hx.cell hb
      refine wp_region_plan (fun w' => Ext w1 w') 8 (.float 0 (.float 1 (.float 2 (.float 3 (.float 4 (.float 5 (.float 6 (.float 7 (.tail 8))))))))) (by kernel_rfl) (by kernel_rfl) (Ext.refl _).drew ?_
      iterate 8 ((refine Plan.float_step (v := ?_) rfl (by rfl) (fun _ _ _ h => h) (fun w' hSw => ?_) ?_; rotate_left; · (go_simp; try with_reducible rfl)); (try simp only [Act.put, List.setIfInBounds_toArray, List.set_cons_zero, List.set_cons_succ]))
      refine Plan.tail_step ?_
      simp only [List.drop_succ_cons, List.drop_zero]
      clear hS
      go_wp2
      clear xm0 xm1 xm2 xm3 xm4 xm5 xm6 xm7 xm8 xm9 ym
      clear fm
      have b_0 : Bx (w1.setCell ⟨g2, o2 + Q, none⟩ (.int .i64 (m.reg (D : Int)))) bm [(.slice (some ⟨g1, o1, none⟩) 4 c1), .int .i64 m.pc, (.slice (some ⟨g2, o2, none⟩) 64 c2), .int .i64 m.save, .bool m.lets, .bool m.waits, .int .i64 m.halt, (.slice A3 m.ins.length c3), (.slice A4 m.outs.length c4), .int .i64 m.count] := hBm_1.setCell (by show g2 ≠ bm; omega) _
      have b_1 : Bx ((w1.setCell ⟨g2, o2 + Q, none⟩ (.int .i64 (m.reg (D : Int)))).setCell ⟨bm, 1, none⟩ (.int .i64 ((m.pc + 1) % 65536))) bm [(.slice (some ⟨g1, o1, none⟩) 4 c1), (.int .i64 ((m.pc + 1) % 65536)), (.slice (some ⟨g2, o2, none⟩) 64 c2), .int .i64 m.save, .bool m.lets, .bool m.waits, .int .i64 m.halt, (.slice A3 m.ins.length c3), (.slice A4 m.outs.length c4), .int .i64 m.count] := by have := Bx.put b_0 (j := 1) (by simp) (.int .i64 ((m.pc + 1) % 65536)); simpa using this
      have b_2 : Bx (((w1.setCell ⟨g2, o2 + Q, none⟩ (.int .i64 (m.reg (D : Int)))).setCell ⟨bm, 1, none⟩ (.int .i64 ((m.pc + 1) % 65536))).setCell ⟨bm, 9, none⟩ (.int .i64 (m.count + 1))) bm [(.slice (some ⟨g1, o1, none⟩) 4 c1), (.int .i64 ((m.pc + 1) % 65536)), (.slice (some ⟨g2, o2, none⟩) 64 c2), .int .i64 m.save, .bool m.lets, .bool m.waits, .int .i64 m.halt, (.slice A3 m.ins.length c3), (.slice A4 m.outs.length c4), (.int .i64 (m.count + 1))] := by have := Bx.put b_1 (j := 9) (by simp) (.int .i64 (m.count + 1)); simpa using this
      have b_3 : Bx (World.drew (((w1.setCell ⟨g2, o2 + Q, none⟩ (.int .i64 (m.reg (D : Int)))).setCell ⟨bm, 1, none⟩ (.int .i64 ((m.pc + 1) % 65536))).setCell ⟨bm, 9, none⟩ (.int .i64 (m.count + 1)))) bm [(.slice (some ⟨g1, o1, none⟩) 4 c1), (.int .i64 ((m.pc + 1) % 65536)), (.slice (some ⟨g2, o2, none⟩) 64 c2), .int .i64 m.save, .bool m.lets, .bool m.waits, .int .i64 m.halt, (.slice A3 m.ins.length c3), (.slice A4 m.outs.length c4), (.int .i64 (m.count + 1))] := Bx.hold b_2
      have hBF : Bx (World.drew (((w1.setCell ⟨g2, o2 + Q, none⟩ (.int .i64 (m.reg (D : Int)))).setCell ⟨bm, 1, none⟩ (.int .i64 ((m.pc + 1) % 65536))).setCell ⟨bm, 9, none⟩ (.int .i64 (m.count + 1)))) bm [(.slice (some ⟨g1, o1, none⟩) 4 c1), (.int .i64 ((m.pc + 1) % 65536)), (.slice (some ⟨g2, o2, none⟩) 64 c2), .int .i64 m.save, .bool m.lets, .bool m.waits, .int .i64 m.halt, (.slice A3 m.ins.length c3), (.slice A4 m.outs.length c4), (.int .i64 (m.count + 1))] := b_3
      have hFF : ∀ oo, (World.drew (((w1.setCell ⟨g2, o2 + Q, none⟩ (.int .i64 (m.reg (D : Int)))).setCell ⟨bm, 1, none⟩ (.int .i64 ((m.pc + 1) % 65536))).setCell ⟨bm, 9, none⟩ (.int .i64 (m.count + 1)))).frozen? ⟨bm, oo, none⟩ = false := fz_hold hFm_1
      have hMF : Mach 3 lo X (World.drew (((w1.setCell ⟨g2, o2 + Q, none⟩ (.int .i64 (m.reg (D : Int)))).setCell ⟨bm, 1, none⟩ (.int .i64 ((m.pc + 1) % 65536))).setCell ⟨bm, 9, none⟩ (.int .i64 (m.count + 1)))) g1 o1 c1 g2 o2 c2 (.slice A3 m.ins.length c3) (.slice A4 m.outs.length c4) (({ m with mem := m.mem.set Q (m.reg (D : Int)) } : MchMach).next (m.pc + 1)) := Mach.dropX (Mach.same ((Mach.drew (Mach.far (Mach.far (Mach.setMem hM0 hQ6 (n := (m.reg (D : Int))) ⟨by omega, by omega⟩) hbY (p := ⟨bm, 1, none⟩) (.int .i64 ((m.pc + 1) % 65536))) hbY (p := ⟨bm, 9, none⟩) (.int .i64 (m.count + 1))))) (m' := (({ m with mem := m.mem.set Q (m.reg (D : Int)) } : MchMach).next (m.pc + 1))) rfl rfl rfl rfl)
      have htF : Turn (bm :: mfoot g1 g2 (.slice A4 m.outs.length c4)) w (World.drew (((w1.setCell ⟨g2, o2 + Q, none⟩ (.int .i64 (m.reg (D : Int)))).setCell ⟨bm, 1, none⟩ (.int .i64 ((m.pc + 1) % 65536))).setCell ⟨bm, 9, none⟩ (.int .i64 (m.count + 1)))) := by
        (repeat' (first | (with_reducible exact ht1) | (with_reducible refine Turn.set ?_ ?_ _) | (with_reducible refine Turn.drew ?_)))
        all_goals (refine Or.inl ?_; simp [mfoot])
      (try simp only [Exit.inBlock, Exit.then])
      refine bodyPost_end (results_none rfl _ _ _) rfl ?_
      rw [HV.out]
      exact ⟨rfl, _, _, hBF, hFF, hMF, htF, fun q hq => .inl hq⟩
  · 
    have hwa := wordB_yes hb0 hb1
    have hwd := wordB_yes hd0 hd1
    have HK := hide (show k % 65536 = k by omega)
    by_cases hr : m.reg (D : Int) = m.reg (a : Int)
    · 
      have HV := hide (show (mDo m ⟨11, (D : Int), (a : Int), k⟩) = (m.next k) by show m.next (if _ then _ else _) = _; rw [if_pos hr])
      have HR := hide (show decide (m.reg (D : Int) = m.reg (a : Int)) = true by simp [hr])
      clear hr
      have yi : w.heap.size < w1.heap.size := by omega
      have xi0 := hBi_1 0 _ rfl
      have xi1 := hBi_1 1 _ rfl
      have xi2 := hBi_1 2 _ rfl
      have xi3 := hBi_1 3 _ rfl
      have fi := hFi_1
      have ym : bm < w1.heap.size := by omega
      have xm0 := hBm_1 0 _ rfl
      have xm1 := hBm_1 1 _ rfl
      have xm2 := hBm_1 2 _ rfl
      have xm3 := hBm_1 3 _ rfl
      have xm4 := hBm_1 4 _ rfl
      have xm5 := hBm_1 5 _ rfl
      have xm6 := hBm_1 6 _ rfl
      have xm7 := hBm_1 7 _ rfl
      have xm8 := hBm_1 8 _ rfl
      have xm9 := hBm_1 9 _ rfl
      have fm := hFm_1
      go_upto_region 27 with fail
      have hS : ∀ w', Ext w1 w' → ∀ bb oo, bb < w1.heap.size → w'.cell? ⟨bb, oo, none⟩ = w1.cell? ⟨bb, oo, none⟩ := fun w' hx bb oo hb => hx.cell hb
      refine wp_region_plan (fun w' => Ext w1 w') 8 (.float 0 (.float 1 (.float 2 (.float 3 (.float 4 (.float 5 (.float 6 (.float 7 (.tail 8))))))))) (by kernel_rfl) (by kernel_rfl) (Ext.refl _).drew ?_
      iterate 8 ((refine Plan.float_step (v := ?_) rfl (by rfl) (fun _ _ _ h => h) (fun w' hSw => ?_) ?_; rotate_left; · (go_simp; try with_reducible rfl)); (try simp only [Act.put, List.setIfInBounds_toArray, List.set_cons_zero, List.set_cons_succ]))
      refine Plan.tail_step ?_
      simp only [List.drop_succ_cons, List.drop_zero]
      clear hS
      go_wp2_with (go_at_call 78; refine (rel1 _ _ hwd hwa _).mono ?_; rintro e w' ⟨he, rfl⟩; rw [HR.out] at he; subst he)
      clear xm0 xm1 xm2 xm3 xm4 xm5 xm6 xm7 xm8 xm9 ym
      clear fm
      have b_0 : Bx (w1.setCell ⟨bm, 1, none⟩ (.int .i64 k)) bm [(.slice (some ⟨g1, o1, none⟩) 4 c1), (.int .i64 k), (.slice (some ⟨g2, o2, none⟩) 64 c2), .int .i64 m.save, .bool m.lets, .bool m.waits, .int .i64 m.halt, (.slice A3 m.ins.length c3), (.slice A4 m.outs.length c4), .int .i64 m.count] := by have := Bx.put hBm_1 (j := 1) (by simp) (.int .i64 k); simpa using this
      have b_1 : Bx ((w1.setCell ⟨bm, 1, none⟩ (.int .i64 k)).setCell ⟨bm, 9, none⟩ (.int .i64 (m.count + 1))) bm [(.slice (some ⟨g1, o1, none⟩) 4 c1), (.int .i64 k), (.slice (some ⟨g2, o2, none⟩) 64 c2), .int .i64 m.save, .bool m.lets, .bool m.waits, .int .i64 m.halt, (.slice A3 m.ins.length c3), (.slice A4 m.outs.length c4), (.int .i64 (m.count + 1))] := by have := Bx.put b_0 (j := 9) (by simp) (.int .i64 (m.count + 1)); simpa using this
      have b_2 : Bx (World.drew ((w1.setCell ⟨bm, 1, none⟩ (.int .i64 k)).setCell ⟨bm, 9, none⟩ (.int .i64 (m.count + 1)))) bm [(.slice (some ⟨g1, o1, none⟩) 4 c1), (.int .i64 k), (.slice (some ⟨g2, o2, none⟩) 64 c2), .int .i64 m.save, .bool m.lets, .bool m.waits, .int .i64 m.halt, (.slice A3 m.ins.length c3), (.slice A4 m.outs.length c4), (.int .i64 (m.count + 1))] := Bx.hold b_1
      have hBF : Bx (World.drew ((w1.setCell ⟨bm, 1, none⟩ (.int .i64 k)).setCell ⟨bm, 9, none⟩ (.int .i64 (m.count + 1)))) bm [(.slice (some ⟨g1, o1, none⟩) 4 c1), (.int .i64 k), (.slice (some ⟨g2, o2, none⟩) 64 c2), .int .i64 m.save, .bool m.lets, .bool m.waits, .int .i64 m.halt, (.slice A3 m.ins.length c3), (.slice A4 m.outs.length c4), (.int .i64 (m.count + 1))] := b_2
      have hFF : ∀ oo, (World.drew ((w1.setCell ⟨bm, 1, none⟩ (.int .i64 k)).setCell ⟨bm, 9, none⟩ (.int .i64 (m.count + 1)))).frozen? ⟨bm, oo, none⟩ = false := fz_hold hFm_1
      have hMF : Mach 3 lo X (World.drew ((w1.setCell ⟨bm, 1, none⟩ (.int .i64 k)).setCell ⟨bm, 9, none⟩ (.int .i64 (m.count + 1)))) g1 o1 c1 g2 o2 c2 (.slice A3 m.ins.length c3) (.slice A4 m.outs.length c4) (m.next k) := Mach.dropX (Mach.same ((Mach.drew (Mach.far (Mach.far hM0 hbY (p := ⟨bm, 1, none⟩) (.int .i64 k)) hbY (p := ⟨bm, 9, none⟩) (.int .i64 (m.count + 1))))) (m' := (m.next k)) rfl rfl rfl rfl)
      have htF : Turn (bm :: mfoot g1 g2 (.slice A4 m.outs.length c4)) w (World.drew ((w1.setCell ⟨bm, 1, none⟩ (.int .i64 k)).setCell ⟨bm, 9, none⟩ (.int .i64 (m.count + 1)))) := by
        (repeat' (first | (with_reducible exact ht1) | (with_reducible refine Turn.set ?_ ?_ _) | (with_reducible refine Turn.drew ?_)))
        all_goals (refine Or.inl ?_; simp [mfoot])
      (try simp only [Exit.inBlock, Exit.then])
      refine bodyPost_end (results_none rfl _ _ _) rfl ?_
      rw [HV.out]
      refine ⟨rfl, _, _, ?_, hFF, hMF, htF, fun q hq => .inl hq⟩
      show Bx _ bm [_, .int .i64 (k % 65536), _, _, _, _, _, _, _, _]
      rw [HK.out]
      exact hBF
    · 
      have HV := hide (show (mDo m ⟨11, (D : Int), (a : Int), k⟩) = (m.next (m.pc + 1)) by show m.next (if _ then _ else _) = _; rw [if_neg hr])
      have HR := hide (show decide (m.reg (D : Int) = m.reg (a : Int)) = false by simp [hr])
      clear hr
      have yi : w.heap.size < w1.heap.size := by omega
      have xi0 := hBi_1 0 _ rfl
      have xi1 := hBi_1 1 _ rfl
      have xi2 := hBi_1 2 _ rfl
      have xi3 := hBi_1 3 _ rfl
      have fi := hFi_1
      have ym : bm < w1.heap.size := by omega
      have xm0 := hBm_1 0 _ rfl
      have xm1 := hBm_1 1 _ rfl
      have xm2 := hBm_1 2 _ rfl
      have xm3 := hBm_1 3 _ rfl
      have xm4 := hBm_1 4 _ rfl
      have xm5 := hBm_1 5 _ rfl
      have xm6 := hBm_1 6 _ rfl
      have xm7 := hBm_1 7 _ rfl
      have xm8 := hBm_1 8 _ rfl
      have xm9 := hBm_1 9 _ rfl
      have fm := hFm_1
      go_upto_region 27 with fail
      have hS : ∀ w', Ext w1 w' → ∀ bb oo, bb < w1.heap.size → w'.cell? ⟨bb, oo, none⟩ = w1.cell? ⟨bb, oo, none⟩ := fun w' hx bb oo hb => hx.cell hb
      refine wp_region_plan (fun w' => Ext w1 w') 8 (.float 0 (.float 1 (.float 2 (.float 3 (.float 4 (.float 5 (.float 6 (.float 7 (.tail 8))))))))) (by kernel_rfl) (by kernel_rfl) (Ext.refl _).drew ?_
      iterate 8 ((refine Plan.float_step (v := ?_) rfl (by rfl) (fun _ _ _ h => h) (fun w' hSw => ?_) ?_; rotate_left; · (go_simp; try with_reducible rfl)); (try simp only [Act.put, List.setIfInBounds_toArray, List.set_cons_zero, List.set_cons_succ]))
      refine Plan.tail_step ?_
      simp only [List.drop_succ_cons, List.drop_zero]
      clear hS
      go_wp2_with (go_at_call 78; refine (rel1 _ _ hwd hwa _).mono ?_; rintro e w' ⟨he, rfl⟩; rw [HR.out] at he; subst he)
      clear xm0 xm1 xm2 xm3 xm4 xm5 xm6 xm7 xm8 xm9 ym
      clear fm
      have b_0 : Bx (w1.setCell ⟨bm, 1, none⟩ (.int .i64 ((m.pc + 1) % 65536))) bm [(.slice (some ⟨g1, o1, none⟩) 4 c1), (.int .i64 ((m.pc + 1) % 65536)), (.slice (some ⟨g2, o2, none⟩) 64 c2), .int .i64 m.save, .bool m.lets, .bool m.waits, .int .i64 m.halt, (.slice A3 m.ins.length c3), (.slice A4 m.outs.length c4), .int .i64 m.count] := by have := Bx.put hBm_1 (j := 1) (by simp) (.int .i64 ((m.pc + 1) % 65536)); simpa using this
      have b_1 : Bx ((w1.setCell ⟨bm, 1, none⟩ (.int .i64 ((m.pc + 1) % 65536))).setCell ⟨bm, 9, none⟩ (.int .i64 (m.count + 1))) bm [(.slice (some ⟨g1, o1, none⟩) 4 c1), (.int .i64 ((m.pc + 1) % 65536)), (.slice (some ⟨g2, o2, none⟩) 64 c2), .int .i64 m.save, .bool m.lets, .bool m.waits, .int .i64 m.halt, (.slice A3 m.ins.length c3), (.slice A4 m.outs.length c4), (.int .i64 (m.count + 1))] := by have := Bx.put b_0 (j := 9) (by simp) (.int .i64 (m.count + 1)); simpa using this
      have b_2 : Bx (World.drew ((w1.setCell ⟨bm, 1, none⟩ (.int .i64 ((m.pc + 1) % 65536))).setCell ⟨bm, 9, none⟩ (.int .i64 (m.count + 1)))) bm [(.slice (some ⟨g1, o1, none⟩) 4 c1), (.int .i64 ((m.pc + 1) % 65536)), (.slice (some ⟨g2, o2, none⟩) 64 c2), .int .i64 m.save, .bool m.lets, .bool m.waits, .int .i64 m.halt, (.slice A3 m.ins.length c3), (.slice A4 m.outs.length c4), (.int .i64 (m.count + 1))] := Bx.hold b_1
      have hBF : Bx (World.drew ((w1.setCell ⟨bm, 1, none⟩ (.int .i64 ((m.pc + 1) % 65536))).setCell ⟨bm, 9, none⟩ (.int .i64 (m.count + 1)))) bm [(.slice (some ⟨g1, o1, none⟩) 4 c1), (.int .i64 ((m.pc + 1) % 65536)), (.slice (some ⟨g2, o2, none⟩) 64 c2), .int .i64 m.save, .bool m.lets, .bool m.waits, .int .i64 m.halt, (.slice A3 m.ins.length c3), (.slice A4 m.outs.length c4), (.int .i64 (m.count + 1))] := b_2
      have hFF : ∀ oo, (World.drew ((w1.setCell ⟨bm, 1, none⟩ (.int .i64 ((m.pc + 1) % 65536))).setCell ⟨bm, 9, none⟩ (.int .i64 (m.count + 1)))).frozen? ⟨bm, oo, none⟩ = false := fz_hold hFm_1
      have hMF : Mach 3 lo X (World.drew ((w1.setCell ⟨bm, 1, none⟩ (.int .i64 ((m.pc + 1) % 65536))).setCell ⟨bm, 9, none⟩ (.int .i64 (m.count + 1)))) g1 o1 c1 g2 o2 c2 (.slice A3 m.ins.length c3) (.slice A4 m.outs.length c4) (m.next (m.pc + 1)) := Mach.dropX (Mach.same ((Mach.drew (Mach.far (Mach.far hM0 hbY (p := ⟨bm, 1, none⟩) (.int .i64 ((m.pc + 1) % 65536))) hbY (p := ⟨bm, 9, none⟩) (.int .i64 (m.count + 1))))) (m' := (m.next (m.pc + 1))) rfl rfl rfl rfl)
      have htF : Turn (bm :: mfoot g1 g2 (.slice A4 m.outs.length c4)) w (World.drew ((w1.setCell ⟨bm, 1, none⟩ (.int .i64 ((m.pc + 1) % 65536))).setCell ⟨bm, 9, none⟩ (.int .i64 (m.count + 1)))) := by
        (repeat' (first | (with_reducible exact ht1) | (with_reducible refine Turn.set ?_ ?_ _) | (with_reducible refine Turn.drew ?_)))
        all_goals (refine Or.inl ?_; simp [mfoot])
      (try simp only [Exit.inBlock, Exit.then])
      refine bodyPost_end (results_none rfl _ _ _) rfl ?_
      rw [HV.out]
      exact ⟨rfl, _, _, hBF, hFF, hMF, htF, fun q hq => .inl hq⟩
  · 
    have hwa := wordB_yes hb0 hb1
    have hwd := wordB_yes hd0 hd1
    have HK := hide (show k % 65536 = k by omega)
    by_cases hr : m.reg (D : Int) < m.reg (a : Int)
    · 
      have HV := hide (show (mDo m ⟨12, (D : Int), (a : Int), k⟩) = (m.next k) by show m.next (if _ then _ else _) = _; rw [if_pos hr])
      have HR := hide (show decide (m.reg (D : Int) < m.reg (a : Int)) = true by simp [hr])
      clear hr
      have yi : w.heap.size < w1.heap.size := by omega
      have xi0 := hBi_1 0 _ rfl
      have xi1 := hBi_1 1 _ rfl
      have xi2 := hBi_1 2 _ rfl
      have xi3 := hBi_1 3 _ rfl
      have fi := hFi_1
      have ym : bm < w1.heap.size := by omega
      have xm0 := hBm_1 0 _ rfl
      have xm1 := hBm_1 1 _ rfl
      have xm2 := hBm_1 2 _ rfl
      have xm3 := hBm_1 3 _ rfl
      have xm4 := hBm_1 4 _ rfl
      have xm5 := hBm_1 5 _ rfl
      have xm6 := hBm_1 6 _ rfl
      have xm7 := hBm_1 7 _ rfl
      have xm8 := hBm_1 8 _ rfl
      have xm9 := hBm_1 9 _ rfl
      have fm := hFm_1
      go_upto_region 27 with fail
      have hS : ∀ w', Ext w1 w' → ∀ bb oo, bb < w1.heap.size → w'.cell? ⟨bb, oo, none⟩ = w1.cell? ⟨bb, oo, none⟩ := fun w' hx bb oo hb => hx.cell hb
      refine wp_region_plan (fun w' => Ext w1 w') 8 (.float 0 (.float 1 (.float 2 (.float 3 (.float 4 (.float 5 (.float 6 (.float 7 (.tail 8))))))))) (by kernel_rfl) (by kernel_rfl) (Ext.refl _).drew ?_
      iterate 8 ((refine Plan.float_step (v := ?_) rfl (by rfl) (fun _ _ _ h => h) (fun w' hSw => ?_) ?_; rotate_left; · (go_simp; try with_reducible rfl)); (try simp only [Act.put, List.setIfInBounds_toArray, List.set_cons_zero, List.set_cons_succ]))
      refine Plan.tail_step ?_
      simp only [List.drop_succ_cons, List.drop_zero]
      clear hS
      go_wp2_with (go_at_call 78; refine (rel2 _ _ hwd hwa _).mono ?_; rintro e w' ⟨he, rfl⟩; rw [HR.out] at he; subst he)
      clear xm0 xm1 xm2 xm3 xm4 xm5 xm6 xm7 xm8 xm9 ym
      clear fm
      have b_0 : Bx (w1.setCell ⟨bm, 1, none⟩ (.int .i64 k)) bm [(.slice (some ⟨g1, o1, none⟩) 4 c1), (.int .i64 k), (.slice (some ⟨g2, o2, none⟩) 64 c2), .int .i64 m.save, .bool m.lets, .bool m.waits, .int .i64 m.halt, (.slice A3 m.ins.length c3), (.slice A4 m.outs.length c4), .int .i64 m.count] := by have := Bx.put hBm_1 (j := 1) (by simp) (.int .i64 k); simpa using this
      have b_1 : Bx ((w1.setCell ⟨bm, 1, none⟩ (.int .i64 k)).setCell ⟨bm, 9, none⟩ (.int .i64 (m.count + 1))) bm [(.slice (some ⟨g1, o1, none⟩) 4 c1), (.int .i64 k), (.slice (some ⟨g2, o2, none⟩) 64 c2), .int .i64 m.save, .bool m.lets, .bool m.waits, .int .i64 m.halt, (.slice A3 m.ins.length c3), (.slice A4 m.outs.length c4), (.int .i64 (m.count + 1))] := by have := Bx.put b_0 (j := 9) (by simp) (.int .i64 (m.count + 1)); simpa using this
      have b_2 : Bx (World.drew ((w1.setCell ⟨bm, 1, none⟩ (.int .i64 k)).setCell ⟨bm, 9, none⟩ (.int .i64 (m.count + 1)))) bm [(.slice (some ⟨g1, o1, none⟩) 4 c1), (.int .i64 k), (.slice (some ⟨g2, o2, none⟩) 64 c2), .int .i64 m.save, .bool m.lets, .bool m.waits, .int .i64 m.halt, (.slice A3 m.ins.length c3), (.slice A4 m.outs.length c4), (.int .i64 (m.count + 1))] := Bx.hold b_1
      have hBF : Bx (World.drew ((w1.setCell ⟨bm, 1, none⟩ (.int .i64 k)).setCell ⟨bm, 9, none⟩ (.int .i64 (m.count + 1)))) bm [(.slice (some ⟨g1, o1, none⟩) 4 c1), (.int .i64 k), (.slice (some ⟨g2, o2, none⟩) 64 c2), .int .i64 m.save, .bool m.lets, .bool m.waits, .int .i64 m.halt, (.slice A3 m.ins.length c3), (.slice A4 m.outs.length c4), (.int .i64 (m.count + 1))] := b_2
      have hFF : ∀ oo, (World.drew ((w1.setCell ⟨bm, 1, none⟩ (.int .i64 k)).setCell ⟨bm, 9, none⟩ (.int .i64 (m.count + 1)))).frozen? ⟨bm, oo, none⟩ = false := fz_hold hFm_1
      have hMF : Mach 3 lo X (World.drew ((w1.setCell ⟨bm, 1, none⟩ (.int .i64 k)).setCell ⟨bm, 9, none⟩ (.int .i64 (m.count + 1)))) g1 o1 c1 g2 o2 c2 (.slice A3 m.ins.length c3) (.slice A4 m.outs.length c4) (m.next k) := Mach.dropX (Mach.same ((Mach.drew (Mach.far (Mach.far hM0 hbY (p := ⟨bm, 1, none⟩) (.int .i64 k)) hbY (p := ⟨bm, 9, none⟩) (.int .i64 (m.count + 1))))) (m' := (m.next k)) rfl rfl rfl rfl)
      have htF : Turn (bm :: mfoot g1 g2 (.slice A4 m.outs.length c4)) w (World.drew ((w1.setCell ⟨bm, 1, none⟩ (.int .i64 k)).setCell ⟨bm, 9, none⟩ (.int .i64 (m.count + 1)))) := by
        (repeat' (first | (with_reducible exact ht1) | (with_reducible refine Turn.set ?_ ?_ _) | (with_reducible refine Turn.drew ?_)))
        all_goals (refine Or.inl ?_; simp [mfoot])
      (try simp only [Exit.inBlock, Exit.then])
      refine bodyPost_end (results_none rfl _ _ _) rfl ?_
      rw [HV.out]
      refine ⟨rfl, _, _, ?_, hFF, hMF, htF, fun q hq => .inl hq⟩
      show Bx _ bm [_, .int .i64 (k % 65536), _, _, _, _, _, _, _, _]
      rw [HK.out]
      exact hBF
    · 
      have HV := hide (show (mDo m ⟨12, (D : Int), (a : Int), k⟩) = (m.next (m.pc + 1)) by show m.next (if _ then _ else _) = _; rw [if_neg hr])
      have HR := hide (show decide (m.reg (D : Int) < m.reg (a : Int)) = false by simp [hr])
      clear hr
      have yi : w.heap.size < w1.heap.size := by omega
      have xi0 := hBi_1 0 _ rfl
      have xi1 := hBi_1 1 _ rfl
      have xi2 := hBi_1 2 _ rfl
      have xi3 := hBi_1 3 _ rfl
      have fi := hFi_1
      have ym : bm < w1.heap.size := by omega
      have xm0 := hBm_1 0 _ rfl
      have xm1 := hBm_1 1 _ rfl
      have xm2 := hBm_1 2 _ rfl
      have xm3 := hBm_1 3 _ rfl
      have xm4 := hBm_1 4 _ rfl
      have xm5 := hBm_1 5 _ rfl
      have xm6 := hBm_1 6 _ rfl
      have xm7 := hBm_1 7 _ rfl
      have xm8 := hBm_1 8 _ rfl
      have xm9 := hBm_1 9 _ rfl
      have fm := hFm_1
      go_upto_region 27 with fail
      have hS : ∀ w', Ext w1 w' → ∀ bb oo, bb < w1.heap.size → w'.cell? ⟨bb, oo, none⟩ = w1.cell? ⟨bb, oo, none⟩ := fun w' hx bb oo hb => hx.cell hb
      refine wp_region_plan (fun w' => Ext w1 w') 8 (.float 0 (.float 1 (.float 2 (.float 3 (.float 4 (.float 5 (.float 6 (.float 7 (.tail 8))))))))) (by kernel_rfl) (by kernel_rfl) (Ext.refl _).drew ?_
      iterate 8 ((refine Plan.float_step (v := ?_) rfl (by rfl) (fun _ _ _ h => h) (fun w' hSw => ?_) ?_; rotate_left; · (go_simp; try with_reducible rfl)); (try simp only [Act.put, List.setIfInBounds_toArray, List.set_cons_zero, List.set_cons_succ]))
      refine Plan.tail_step ?_
      simp only [List.drop_succ_cons, List.drop_zero]
      clear hS
      go_wp2_with (go_at_call 78; refine (rel2 _ _ hwd hwa _).mono ?_; rintro e w' ⟨he, rfl⟩; rw [HR.out] at he; subst he)
      clear xm0 xm1 xm2 xm3 xm4 xm5 xm6 xm7 xm8 xm9 ym
      clear fm
      have b_0 : Bx (w1.setCell ⟨bm, 1, none⟩ (.int .i64 ((m.pc + 1) % 65536))) bm [(.slice (some ⟨g1, o1, none⟩) 4 c1), (.int .i64 ((m.pc + 1) % 65536)), (.slice (some ⟨g2, o2, none⟩) 64 c2), .int .i64 m.save, .bool m.lets, .bool m.waits, .int .i64 m.halt, (.slice A3 m.ins.length c3), (.slice A4 m.outs.length c4), .int .i64 m.count] := by have := Bx.put hBm_1 (j := 1) (by simp) (.int .i64 ((m.pc + 1) % 65536)); simpa using this
      have b_1 : Bx ((w1.setCell ⟨bm, 1, none⟩ (.int .i64 ((m.pc + 1) % 65536))).setCell ⟨bm, 9, none⟩ (.int .i64 (m.count + 1))) bm [(.slice (some ⟨g1, o1, none⟩) 4 c1), (.int .i64 ((m.pc + 1) % 65536)), (.slice (some ⟨g2, o2, none⟩) 64 c2), .int .i64 m.save, .bool m.lets, .bool m.waits, .int .i64 m.halt, (.slice A3 m.ins.length c3), (.slice A4 m.outs.length c4), (.int .i64 (m.count + 1))] := by have := Bx.put b_0 (j := 9) (by simp) (.int .i64 (m.count + 1)); simpa using this
      have b_2 : Bx (World.drew ((w1.setCell ⟨bm, 1, none⟩ (.int .i64 ((m.pc + 1) % 65536))).setCell ⟨bm, 9, none⟩ (.int .i64 (m.count + 1)))) bm [(.slice (some ⟨g1, o1, none⟩) 4 c1), (.int .i64 ((m.pc + 1) % 65536)), (.slice (some ⟨g2, o2, none⟩) 64 c2), .int .i64 m.save, .bool m.lets, .bool m.waits, .int .i64 m.halt, (.slice A3 m.ins.length c3), (.slice A4 m.outs.length c4), (.int .i64 (m.count + 1))] := Bx.hold b_1
      have hBF : Bx (World.drew ((w1.setCell ⟨bm, 1, none⟩ (.int .i64 ((m.pc + 1) % 65536))).setCell ⟨bm, 9, none⟩ (.int .i64 (m.count + 1)))) bm [(.slice (some ⟨g1, o1, none⟩) 4 c1), (.int .i64 ((m.pc + 1) % 65536)), (.slice (some ⟨g2, o2, none⟩) 64 c2), .int .i64 m.save, .bool m.lets, .bool m.waits, .int .i64 m.halt, (.slice A3 m.ins.length c3), (.slice A4 m.outs.length c4), (.int .i64 (m.count + 1))] := b_2
      have hFF : ∀ oo, (World.drew ((w1.setCell ⟨bm, 1, none⟩ (.int .i64 ((m.pc + 1) % 65536))).setCell ⟨bm, 9, none⟩ (.int .i64 (m.count + 1)))).frozen? ⟨bm, oo, none⟩ = false := fz_hold hFm_1
      have hMF : Mach 3 lo X (World.drew ((w1.setCell ⟨bm, 1, none⟩ (.int .i64 ((m.pc + 1) % 65536))).setCell ⟨bm, 9, none⟩ (.int .i64 (m.count + 1)))) g1 o1 c1 g2 o2 c2 (.slice A3 m.ins.length c3) (.slice A4 m.outs.length c4) (m.next (m.pc + 1)) := Mach.dropX (Mach.same ((Mach.drew (Mach.far (Mach.far hM0 hbY (p := ⟨bm, 1, none⟩) (.int .i64 ((m.pc + 1) % 65536))) hbY (p := ⟨bm, 9, none⟩) (.int .i64 (m.count + 1))))) (m' := (m.next (m.pc + 1))) rfl rfl rfl rfl)
      have htF : Turn (bm :: mfoot g1 g2 (.slice A4 m.outs.length c4)) w (World.drew ((w1.setCell ⟨bm, 1, none⟩ (.int .i64 ((m.pc + 1) % 65536))).setCell ⟨bm, 9, none⟩ (.int .i64 (m.count + 1)))) := by
        (repeat' (first | (with_reducible exact ht1) | (with_reducible refine Turn.set ?_ ?_ _) | (with_reducible refine Turn.drew ?_)))
        all_goals (refine Or.inl ?_; simp [mfoot])
      (try simp only [Exit.inBlock, Exit.then])
      refine bodyPost_end (results_none rfl _ _ _) rfl ?_
      rw [HV.out]
      exact ⟨rfl, _, _, hBF, hFF, hMF, htF, fun q hq => .inl hq⟩
  · 
    have HK := hide (show m.reg (a : Int) % 65536 = m.reg (a : Int) by omega)
    have HV := hide (show (mDo m ⟨13, (D : Int), (a : Int), k⟩) = (m.next (m.reg (a : Int))) by rfl)
    have yi : w.heap.size < w1.heap.size := by omega
    have xi0 := hBi_1 0 _ rfl
    have xi1 := hBi_1 1 _ rfl
    have xi2 := hBi_1 2 _ rfl
    have xi3 := hBi_1 3 _ rfl
    have fi := hFi_1
    have ym : bm < w1.heap.size := by omega
    have xm0 := hBm_1 0 _ rfl
    have xm1 := hBm_1 1 _ rfl
    have xm2 := hBm_1 2 _ rfl
    have xm3 := hBm_1 3 _ rfl
    have xm4 := hBm_1 4 _ rfl
    have xm5 := hBm_1 5 _ rfl
    have xm6 := hBm_1 6 _ rfl
    have xm7 := hBm_1 7 _ rfl
    have xm8 := hBm_1 8 _ rfl
    have xm9 := hBm_1 9 _ rfl
    have fm := hFm_1
    go_wp2
    clear xm0 xm1 xm2 xm3 xm4 xm5 xm6 xm7 xm8 xm9 ym
    clear fm
    have b_0 : Bx (w1.setCell ⟨bm, 1, none⟩ (.int .i64 (m.reg (a : Int)))) bm [(.slice (some ⟨g1, o1, none⟩) 4 c1), (.int .i64 (m.reg (a : Int))), (.slice (some ⟨g2, o2, none⟩) 64 c2), .int .i64 m.save, .bool m.lets, .bool m.waits, .int .i64 m.halt, (.slice A3 m.ins.length c3), (.slice A4 m.outs.length c4), .int .i64 m.count] := by have := Bx.put hBm_1 (j := 1) (by simp) (.int .i64 (m.reg (a : Int))); simpa using this
    have b_1 : Bx ((w1.setCell ⟨bm, 1, none⟩ (.int .i64 (m.reg (a : Int)))).setCell ⟨bm, 9, none⟩ (.int .i64 (m.count + 1))) bm [(.slice (some ⟨g1, o1, none⟩) 4 c1), (.int .i64 (m.reg (a : Int))), (.slice (some ⟨g2, o2, none⟩) 64 c2), .int .i64 m.save, .bool m.lets, .bool m.waits, .int .i64 m.halt, (.slice A3 m.ins.length c3), (.slice A4 m.outs.length c4), (.int .i64 (m.count + 1))] := by have := Bx.put b_0 (j := 9) (by simp) (.int .i64 (m.count + 1)); simpa using this
    have hBF : Bx ((w1.setCell ⟨bm, 1, none⟩ (.int .i64 (m.reg (a : Int)))).setCell ⟨bm, 9, none⟩ (.int .i64 (m.count + 1))) bm [(.slice (some ⟨g1, o1, none⟩) 4 c1), (.int .i64 (m.reg (a : Int))), (.slice (some ⟨g2, o2, none⟩) 64 c2), .int .i64 m.save, .bool m.lets, .bool m.waits, .int .i64 m.halt, (.slice A3 m.ins.length c3), (.slice A4 m.outs.length c4), (.int .i64 (m.count + 1))] := b_1
    have hFF : ∀ oo, ((w1.setCell ⟨bm, 1, none⟩ (.int .i64 (m.reg (a : Int)))).setCell ⟨bm, 9, none⟩ (.int .i64 (m.count + 1))).frozen? ⟨bm, oo, none⟩ = false := fz_hold hFm_1
    have hMF : Mach 3 lo X ((w1.setCell ⟨bm, 1, none⟩ (.int .i64 (m.reg (a : Int)))).setCell ⟨bm, 9, none⟩ (.int .i64 (m.count + 1))) g1 o1 c1 g2 o2 c2 (.slice A3 m.ins.length c3) (.slice A4 m.outs.length c4) (m.next (m.reg (a : Int))) := Mach.dropX (Mach.same ((Mach.far (Mach.far hM0 hbY (p := ⟨bm, 1, none⟩) (.int .i64 (m.reg (a : Int)))) hbY (p := ⟨bm, 9, none⟩) (.int .i64 (m.count + 1)))) (m' := (m.next (m.reg (a : Int)))) rfl rfl rfl rfl)
    have htF : Turn (bm :: mfoot g1 g2 (.slice A4 m.outs.length c4)) w ((w1.setCell ⟨bm, 1, none⟩ (.int .i64 (m.reg (a : Int)))).setCell ⟨bm, 9, none⟩ (.int .i64 (m.count + 1))) := by
      (repeat' (first | (with_reducible exact ht1) | (with_reducible refine Turn.set ?_ ?_ _) | (with_reducible refine Turn.drew ?_)))
      all_goals (refine Or.inl ?_; simp [mfoot])
    (try simp only [Exit.inBlock, Exit.then])
    refine bodyPost_end (results_none rfl _ _ _) rfl ?_
    rw [HV.out]
    refine ⟨rfl, _, _, ?_, hFF, hMF, htF, fun q hq => .inl hq⟩
    show Bx _ bm [_, .int .i64 (m.reg (a : Int) % 65536), _, _, _, _, _, _, _, _]
    rw [HK.out]
    exact hBF
  · 
    have HV := hide (show (mDo m ⟨14, (D : Int), (a : Int), k⟩) = (({ m with outs := m.outs ++ [m.reg (D : Int)] } : MchMach).next (m.pc + 1)) by rfl)
    obtain ⟨i0, hi, hz0, hz1, hz2⟩ := info_parts infInt
    have HI := hide hi
    have HZ0 := hide hz0
    have HZ1 := hide hz1
    have HZ2 := hide hz2
    clear hi hz0 hz1 hz2
    obtain ⟨F3, wa, Fs, xs, hC⟩ := hM0
    have hfit : Fits (m.reg (D : Int)) := by unfold Fits; omega
    have yi : w.heap.size < w1.heap.size := by omega
    have xi0 := hBi_1 0 _ rfl
    have xi1 := hBi_1 1 _ rfl
    have xi2 := hBi_1 2 _ rfl
    have xi3 := hBi_1 3 _ rfl
    have fi := hFi_1
    have ym : bm < w1.heap.size := by omega
    have xm0 := hBm_1 0 _ rfl
    have xm1 := hBm_1 1 _ rfl
    have xm2 := hBm_1 2 _ rfl
    have xm3 := hBm_1 3 _ rfl
    have xm4 := hBm_1 4 _ rfl
    have xm5 := hBm_1 5 _ rfl
    have xm6 := hBm_1 6 _ rfl
    have xm7 := hBm_1 7 _ rfl
    have xm8 := hBm_1 8 _ rfl
    have xm9 := hBm_1 9 _ rfl
    have fm := hFm_1
    go_upto_region 32 with fail
    have hnb : bm ∉ (Value.slice A4 m.outs.length c4).ownBlock.toList := fun hm => hb4_ (by simpa using hm)
    have hng : g1 ∉ (Value.slice A4 m.outs.length c4).ownBlock.toList := fun hm => (hC.a4 g1 (by simpa using hm)).1 rfl
    have hni : w.heap.size ∉ (Value.slice A4 m.outs.length c4).ownBlock.toList := fun hm => by have := hown w.heap.size (by simpa using hm); omega
    have hSb : ∀ w', Turn (Value.slice A4 m.outs.length c4).ownBlock.toList w1 w' → ∀ oo, w'.cell? ⟨bm, oo, none⟩ = w1.cell? ⟨bm, oo, none⟩ := fun w' hx oo => hx.cell ym hnb
    have hSg : ∀ w', Turn (Value.slice A4 m.outs.length c4).ownBlock.toList w1 w' → ∀ oo, w'.cell? ⟨g1, oo, none⟩ = w1.cell? ⟨g1, oo, none⟩ := fun w' hx oo => hx.cell yg1 hng
    have hSi : ∀ w', Turn (Value.slice A4 m.outs.length c4).ownBlock.toList w1 w' → ∀ oo, w'.cell? ⟨w.heap.size, oo, none⟩ = w1.cell? ⟨w.heap.size, oo, none⟩ := fun w' hx oo => hx.cell yi hni
    refine wp_region_plan (fun w' => Turn (Value.slice A4 m.outs.length c4).ownBlock.toList w1 w') 10 (.float 0 (.float 1 (.float 2 (.float 3 (.float 4 (.float 5 (.float 6 (.float 7 (.chain 8 (.chain 9 (.tail 10))))))))))) (by kernel_rfl) (by kernel_rfl) (Turn.of_ext (Ext.refl _).drew _) ?_
    iterate 8 ((refine Plan.float_step (v := ?_) rfl (by rfl) (fun _ _ _ h => h) (fun w' hSw => ?_) ?_; rotate_left; · (go_simp; try with_reducible rfl)); (try simp only [Act.put, List.setIfInBounds_toArray, List.set_cons_zero, List.set_cons_succ]))
    refine Plan.chain_step rfl (fun K hK => ?_)
    go_simp
    refine hK.out _ _ (Turn.of_ext Ext.auto _) ?_
    clear hK
    (try simp only [Act.put, List.setIfInBounds_toArray, List.set_cons_zero, List.set_cons_succ])
    refine Plan.chain_step rfl (fun K hK => ?_)
    (try rw [drew_alloc])
    refine wp_append_push2 (α := Int) (w0 := wa) (wr := w1) _ _ 22 rfl i0 _ 8 Tryd.underlying22 HI.out HZ0.out HZ1.out HZ2.out rfl (by decide) hC.s4 rfl (m.reg (D : Int)) #[.int .i64 (m.reg (D : Int))] 3 [] _ rfl Ext.auto ⟨⟨rfl, hfit⟩, rfl⟩ (Fr.nil _ _) (by repeat (first | (exact fun _ h => absurd h (List.not_mem_nil)) | (refine List.forall_mem_cons.2 ⟨rfl, ?_⟩))) (by unfold maxLen; omega) (by omega) ?_
    intro v' w9 xs' hA9 hg9 hb9
    have hP := hC.push (W := (w1.drew.alloc (.cells #[.int .i64 (m.reg (D : Int))] 3))) Ext.auto hA9 hg9 hb9
    obtain ⟨A9, c9, rfl, hl9, hm9⟩ := hP.form4
    have hT9 := (Turn.of_grown (a := w1) (b := (w1.drew.alloc (.cells #[.int .i64 (m.reg (D : Int))] 3))) Ext.auto hg9)
    have hsz9 := hg9.size
    have hBm9 := hT9.bx hBm_1 ym hnb
    have hFm9 := fun oo => (hT9.frozen ym hnb).trans (hFm_1 oo)
    have xq0 := hBm9 0 _ rfl
    have xq1 := hBm9 1 _ rfl
    have xq2 := hBm9 2 _ rfl
    have xq3 := hBm9 3 _ rfl
    have xq4 := hBm9 4 _ rfl
    have xq5 := hBm9 5 _ rfl
    have xq6 := hBm9 6 _ rfl
    have xq7 := hBm9 7 _ rfl
    have xq8 := hBm9 8 _ rfl
    have xq9 := hBm9 9 _ rfl
    have yq := Nat.lt_of_lt_of_le ym (Turn.size hT9)
    refine hK.out _ _ hT9 ?_
    clear hK
    (try simp only [Act.put, List.setIfInBounds_toArray, List.set_cons_zero, List.set_cons_succ])
    refine Plan.tail_step ?_
    simp only [List.drop_succ_cons, List.drop_zero]
    clear hSb hSg hSi
    go_wp2
    clear xi0 xi1 xi2 xi3 yi
    clear fi
    clear xm0 xm1 xm2 xm3 xm4 xm5 xm6 xm7 xm8 xm9 ym
    clear fm
    clear xq0 xq1 xq2 xq3 xq4 xq5 xq6 xq7 xq8 xq9
    have e9 : ({ m with outs := m.outs ++ [m.reg (D : Int)] } : MchMach).outs.length = m.outs.length + 1 := by simp
    rw [e9] at hP hl9 hb9
    clear e9
    have hO9 : ∀ q, (Value.slice A9 (m.outs.length + 1) c9).ownBlock = some q → (Value.slice A4 m.outs.length c4).ownBlock = some q ∨ w.heap.size ≤ q := fun q hq => by
      rcases hb9 with hb | hb
      · exact .inl (hb ▸ hq)
      · refine .inr ?_
        have hb2 := hb.symm.trans hq
        injection hb2 with hb2
        subst hb2
        simp
        omega
    clear hb9
    have ht2 : Turn (bm :: mfoot g1 g2 (.slice A4 m.outs.length c4)) w w9 := (Turn.hold ht1).trans hT9 (fun x hx => .inl (by unfold mfoot; exact List.mem_cons_of_mem _ (List.mem_cons_of_mem _ (List.mem_cons_of_mem _ hx))))
    have hs2 : w.heap.size + 1 ≤ w9.heap.size := by simp at hsz9 ⊢; omega
    have hBm_2 := hBm9
    have hFm_2 := hFm9
    generalize w9 = w2 at *
    have b_0 : Bx (w2.setCell ⟨bm, 8, none⟩ (.slice A9 (m.outs.length + 1) c9)) bm [(.slice (some ⟨g1, o1, none⟩) 4 c1), .int .i64 m.pc, (.slice (some ⟨g2, o2, none⟩) 64 c2), .int .i64 m.save, .bool m.lets, .bool m.waits, .int .i64 m.halt, (.slice A3 m.ins.length c3), (.slice A9 (m.outs.length + 1) c9), .int .i64 m.count] := by have := Bx.put hBm_2 (j := 8) (by simp) (.slice A9 (m.outs.length + 1) c9); simpa using this
    have b_1 : Bx ((w2.setCell ⟨bm, 8, none⟩ (.slice A9 (m.outs.length + 1) c9)).setCell ⟨bm, 1, none⟩ (.int .i64 ((m.pc + 1) % 65536))) bm [(.slice (some ⟨g1, o1, none⟩) 4 c1), (.int .i64 ((m.pc + 1) % 65536)), (.slice (some ⟨g2, o2, none⟩) 64 c2), .int .i64 m.save, .bool m.lets, .bool m.waits, .int .i64 m.halt, (.slice A3 m.ins.length c3), (.slice A9 (m.outs.length + 1) c9), .int .i64 m.count] := by have := Bx.put b_0 (j := 1) (by simp) (.int .i64 ((m.pc + 1) % 65536)); simpa using this
    have b_2 : Bx (((w2.setCell ⟨bm, 8, none⟩ (.slice A9 (m.outs.length + 1) c9)).setCell ⟨bm, 1, none⟩ (.int .i64 ((m.pc + 1) % 65536))).setCell ⟨bm, 9, none⟩ (.int .i64 (m.count + 1))) bm [(.slice (some ⟨g1, o1, none⟩) 4 c1), (.int .i64 ((m.pc + 1) % 65536)), (.slice (some ⟨g2, o2, none⟩) 64 c2), .int .i64 m.save, .bool m.lets, .bool m.waits, .int .i64 m.halt, (.slice A3 m.ins.length c3), (.slice A9 (m.outs.length + 1) c9), (.int .i64 (m.count + 1))] := by have := Bx.put b_1 (j := 9) (by simp) (.int .i64 (m.count + 1)); simpa using this
    have hBF : Bx (((w2.setCell ⟨bm, 8, none⟩ (.slice A9 (m.outs.length + 1) c9)).setCell ⟨bm, 1, none⟩ (.int .i64 ((m.pc + 1) % 65536))).setCell ⟨bm, 9, none⟩ (.int .i64 (m.count + 1))) bm [(.slice (some ⟨g1, o1, none⟩) 4 c1), (.int .i64 ((m.pc + 1) % 65536)), (.slice (some ⟨g2, o2, none⟩) 64 c2), .int .i64 m.save, .bool m.lets, .bool m.waits, .int .i64 m.halt, (.slice A3 m.ins.length c3), (.slice A9 (m.outs.length + 1) c9), (.int .i64 (m.count + 1))] := b_2
    have hFF : ∀ oo, (((w2.setCell ⟨bm, 8, none⟩ (.slice A9 (m.outs.length + 1) c9)).setCell ⟨bm, 1, none⟩ (.int .i64 ((m.pc + 1) % 65536))).setCell ⟨bm, 9, none⟩ (.int .i64 (m.count + 1))).frozen? ⟨bm, oo, none⟩ = false := fz_hold hFm_2
    have hMF : Mach 3 lo X (((w2.setCell ⟨bm, 8, none⟩ (.slice A9 (m.outs.length + 1) c9)).setCell ⟨bm, 1, none⟩ (.int .i64 ((m.pc + 1) % 65536))).setCell ⟨bm, 9, none⟩ (.int .i64 (m.count + 1))) g1 o1 c1 g2 o2 c2 (.slice A3 m.ins.length c3) (.slice A9 (m.outs.length + 1) c9) (({ m with outs := m.outs ++ [m.reg (D : Int)] } : MchMach).next (m.pc + 1)) := Mach.dropX (Mach.same ((Mach.far (Mach.far (Mach.far hP hbY (p := ⟨bm, 8, none⟩) (.slice A9 (m.outs.length + 1) c9)) hbY (p := ⟨bm, 1, none⟩) (.int .i64 ((m.pc + 1) % 65536))) hbY (p := ⟨bm, 9, none⟩) (.int .i64 (m.count + 1)))) (m' := (({ m with outs := m.outs ++ [m.reg (D : Int)] } : MchMach).next (m.pc + 1))) rfl rfl rfl rfl)
    have htF : Turn (bm :: mfoot g1 g2 (.slice A4 m.outs.length c4)) w (((w2.setCell ⟨bm, 8, none⟩ (.slice A9 (m.outs.length + 1) c9)).setCell ⟨bm, 1, none⟩ (.int .i64 ((m.pc + 1) % 65536))).setCell ⟨bm, 9, none⟩ (.int .i64 (m.count + 1))) := by
      (repeat' (first | (with_reducible exact ht2) | (with_reducible refine Turn.set ?_ ?_ _) | (with_reducible refine Turn.drew ?_)))
      all_goals (refine Or.inl ?_; simp [mfoot])
    (try simp only [Exit.inBlock, Exit.then])
    refine bodyPost_end (results_none rfl _ _ _) rfl ?_
    rw [HV.out]
    exact ⟨rfl, _, _, hBF, hFF, hMF, htF, hO9⟩
  · 
    have HV := hide (show (mDo m ⟨15, (D : Int), (a : Int), k⟩) = ((({ m with ins := m.ins.drop 1 } : MchMach).setR (D : Int) ((m.ins[0]?).getD 0)).next (m.pc + 1)) by rfl)
    have hiw := getD_word hk.iw 0
    have hiw0 := hiw.1
    have hiw1 := hiw.2
    have yi : w.heap.size < w1.heap.size := by omega
    have xi0 := hBi_1 0 _ rfl
    have xi1 := hBi_1 1 _ rfl
    have xi2 := hBi_1 2 _ rfl
    have xi3 := hBi_1 3 _ rfl
    have fi := hFi_1
    have ym : bm < w1.heap.size := by omega
    have xm0 := hBm_1 0 _ rfl
    have xm1 := hBm_1 1 _ rfl
    have xm2 := hBm_1 2 _ rfl
    have xm3 := hBm_1 3 _ rfl
    have xm4 := hBm_1 4 _ rfl
    have xm5 := hBm_1 5 _ rfl
    have xm6 := hBm_1 6 _ rfl
    have xm7 := hBm_1 7 _ rfl
    have xm8 := hBm_1 8 _ rfl
    have xm9 := hBm_1 9 _ rfl
    have fm := hFm_1
    go_wp2_with fail
    refine (input_any m _ _ _ _ _ _ _ _ lo _ _ hM0 bm hbY hBm_1 hFm_1).mono ?_
    rintro e w2 ⟨rfl, v3', hBm_2, hFm_2, hMi, hy⟩
    have fr1' := hMi.fz1
    have rD2 := hMi.regAt hD
    obtain ⟨A5, c5, rfl, -, -⟩ := hMi.form3
    clear xi0 xi1 xi2 xi3 yi
    clear fi
    clear xm0 xm1 xm2 xm3 xm4 xm5 xm6 xm7 xm8 xm9 ym
    clear fm
    have ht2 : Turn (bm :: mfoot g1 g2 (.slice A4 m.outs.length c4)) w w2 := (Turn.hold ht1).trans hy (fun x hx => .inl (by simp at hx; subst hx; simp))
    have hs2 := hy.size
    have hs2q : w.heap.size + 1 ≤ w2.heap.size := by omega
    have yg1 : g1 < w2.heap.size := by omega
    have ym : bm < w2.heap.size := by omega
    have xm0 := hBm_2 0 _ rfl
    have xm1 := hBm_2 1 _ rfl
    have xm2 := hBm_2 2 _ rfl
    have xm3 := hBm_2 3 _ rfl
    have xm4 := hBm_2 4 _ rfl
    have xm5 := hBm_2 5 _ rfl
    have xm6 := hBm_2 6 _ rfl
    have xm7 := hBm_2 7 _ rfl
    have xm8 := hBm_2 8 _ rfl
    have xm9 := hBm_2 9 _ rfl
    have fm := hFm_2
    go_wp2
    clear xm0 xm1 xm2 xm3 xm4 xm5 xm6 xm7 xm8 xm9 ym
    clear fm
    have b_0 : Bx (w2.setCell ⟨g1, o1 + D, none⟩ (.int .i64 ((m.ins[0]?).getD 0))) bm [(.slice (some ⟨g1, o1, none⟩) 4 c1), .int .i64 m.pc, (.slice (some ⟨g2, o2, none⟩) 64 c2), .int .i64 m.save, .bool m.lets, .bool m.waits, .int .i64 m.halt, (.slice A5 (m.ins.drop 1).length c5), (.slice A4 m.outs.length c4), .int .i64 m.count] := hBm_2.setCell (by show g1 ≠ bm; omega) _
    have b_1 : Bx ((w2.setCell ⟨g1, o1 + D, none⟩ (.int .i64 ((m.ins[0]?).getD 0))).setCell ⟨bm, 1, none⟩ (.int .i64 ((m.pc + 1) % 65536))) bm [(.slice (some ⟨g1, o1, none⟩) 4 c1), (.int .i64 ((m.pc + 1) % 65536)), (.slice (some ⟨g2, o2, none⟩) 64 c2), .int .i64 m.save, .bool m.lets, .bool m.waits, .int .i64 m.halt, (.slice A5 (m.ins.drop 1).length c5), (.slice A4 m.outs.length c4), .int .i64 m.count] := by have := Bx.put b_0 (j := 1) (by simp) (.int .i64 ((m.pc + 1) % 65536)); simpa using this
    have b_2 : Bx (((w2.setCell ⟨g1, o1 + D, none⟩ (.int .i64 ((m.ins[0]?).getD 0))).setCell ⟨bm, 1, none⟩ (.int .i64 ((m.pc + 1) % 65536))).setCell ⟨bm, 9, none⟩ (.int .i64 (m.count + 1))) bm [(.slice (some ⟨g1, o1, none⟩) 4 c1), (.int .i64 ((m.pc + 1) % 65536)), (.slice (some ⟨g2, o2, none⟩) 64 c2), .int .i64 m.save, .bool m.lets, .bool m.waits, .int .i64 m.halt, (.slice A5 (m.ins.drop 1).length c5), (.slice A4 m.outs.length c4), (.int .i64 (m.count + 1))] := by have := Bx.put b_1 (j := 9) (by simp) (.int .i64 (m.count + 1)); simpa using this
    have hBF : Bx (((w2.setCell ⟨g1, o1 + D, none⟩ (.int .i64 ((m.ins[0]?).getD 0))).setCell ⟨bm, 1, none⟩ (.int .i64 ((m.pc + 1) % 65536))).setCell ⟨bm, 9, none⟩ (.int .i64 (m.count + 1))) bm [(.slice (some ⟨g1, o1, none⟩) 4 c1), (.int .i64 ((m.pc + 1) % 65536)), (.slice (some ⟨g2, o2, none⟩) 64 c2), .int .i64 m.save, .bool m.lets, .bool m.waits, .int .i64 m.halt, (.slice A5 (m.ins.drop 1).length c5), (.slice A4 m.outs.length c4), (.int .i64 (m.count + 1))] := b_2
    have hFF : ∀ oo, (((w2.setCell ⟨g1, o1 + D, none⟩ (.int .i64 ((m.ins[0]?).getD 0))).setCell ⟨bm, 1, none⟩ (.int .i64 ((m.pc + 1) % 65536))).setCell ⟨bm, 9, none⟩ (.int .i64 (m.count + 1))).frozen? ⟨bm, oo, none⟩ = false := fz_hold hFm_2
    have hMF : Mach 3 lo X (((w2.setCell ⟨g1, o1 + D, none⟩ (.int .i64 ((m.ins[0]?).getD 0))).setCell ⟨bm, 1, none⟩ (.int .i64 ((m.pc + 1) % 65536))).setCell ⟨bm, 9, none⟩ (.int .i64 (m.count + 1))) g1 o1 c1 g2 o2 c2 (.slice A5 (m.ins.drop 1).length c5) (.slice A4 m.outs.length c4) ((({ m with ins := m.ins.drop 1 } : MchMach).setR (D : Int) ((m.ins[0]?).getD 0)).next (m.pc + 1)) := Mach.dropX (Mach.same ((Mach.far (Mach.far (Mach.setReg hMi hD (n := ((m.ins[0]?).getD 0)) ⟨by omega, by omega⟩) hbY (p := ⟨bm, 1, none⟩) (.int .i64 ((m.pc + 1) % 65536))) hbY (p := ⟨bm, 9, none⟩) (.int .i64 (m.count + 1)))) (m' := ((({ m with ins := m.ins.drop 1 } : MchMach).setR (D : Int) ((m.ins[0]?).getD 0)).next (m.pc + 1))) rfl rfl rfl rfl)
    have htF : Turn (bm :: mfoot g1 g2 (.slice A4 m.outs.length c4)) w (((w2.setCell ⟨g1, o1 + D, none⟩ (.int .i64 ((m.ins[0]?).getD 0))).setCell ⟨bm, 1, none⟩ (.int .i64 ((m.pc + 1) % 65536))).setCell ⟨bm, 9, none⟩ (.int .i64 (m.count + 1))) := by
      (repeat' (first | (with_reducible exact ht2) | (with_reducible refine Turn.set ?_ ?_ _) | (with_reducible refine Turn.drew ?_)))
      all_goals (refine Or.inl ?_; simp [mfoot])
    (try simp only [Exit.inBlock, Exit.then])
    refine bodyPost_end (results_none rfl _ _ _) rfl ?_
    rw [HV.out]
    exact ⟨rfl, _, _, hBF, hFF, hMF, htF, fun q hq => .inl hq⟩

end Go.Proofs.YtabldlhigjhkeaaDoor
