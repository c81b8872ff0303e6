/-
  What pieces of code do is the same: the reference.
-/
import Derived.Test.YtpneijbjheeobaaSymEvS
import Derived.Deep.DeepCutAuto
namespace Go.Proofs.Ytpneijbjheeobaa
open Go.RowKit

set_option linter.unusedVariables false
set_option linter.unusedSimpArgs false
set_option maxRecDepth 100000

theorem symSym_ne {a b : SymSym} (h : a.events ≠ b.events ∨ a.regs ≠ b.regs ∨ a.fin ≠ b.fin ∨ a.k ≠ b.k ∨ a.x ≠ b.x ∨ a.y ≠ b.y) : decide (a = b) = false := by
  rw [decide_eq_false_iff_not]; intro e; subst e; simp at h
theorem symSym_eq {a b : SymSym} (h0 : a.events = b.events) (h1 : a.regs = b.regs) (h2 : a.fin = b.fin) (h3 : a.k = b.k) (h4 : a.x = b.x) (h5 : a.y = b.y) : decide (a = b) = true := by
  rw [decide_eq_true_iff]; cases a; cases b; simp_all
theorem polOrd_bne (a b : TrmPoly) : (polOrd a b != 0) = !decide (a = b) := by rw [← polOrd_same]; rfl

set_option maxHeartbeats 32000000 in
theorem specSymSame_any (a : SymSym) (b : SymSym) (va1 va2 va3 va4 vb1 vb2 vb3 vb4 : Value) (w : World) (ha1 : Sl w (Old w) va1 a.events) (ha2 : Sl w (Old w) va2 a.regs) (ha3 : Sl w (Old w) va3 a.x.monos) (ha4 : Sl w (Old w) va4 a.y.monos) (hb1 : Sl w (Old w) vb1 b.events) (hb2 : Sl w (Old w) vb2 b.regs) (hb3 : Sl w (Old w) vb3 b.x.monos) (hb4 : Sl w (Old w) vb4 b.y.monos)  :
    Calls Try.prog 19 #[.agg #[va1, va2, .int .i64 a.fin, va3, va4, .int .i64 a.k], .agg #[vb1, vb2, .int .i64 b.fin, vb3, vb4, .int .i64 b.k]] w fun e w' => e = .returned (.bool (decide (a = b))) ∧ Ext w w' := by
  obtain ⟨Aa1, ca1, rfl, hla1, hma1⟩ := ha1.form
  obtain ⟨Aa2, ca2, rfl, hla2, hma2⟩ := ha2.form
  obtain ⟨Aa3, ca3, rfl, hla3, hma3⟩ := ha3.form
  obtain ⟨Aa4, ca4, rfl, hla4, hma4⟩ := ha4.form
  obtain ⟨Ab1, cb1, rfl, hlb1, hmb1⟩ := hb1.form
  obtain ⟨Ab2, cb2, rfl, hlb2, hmb2⟩ := hb2.form
  obtain ⟨Ab3, cb3, rfl, hlb3, hmb3⟩ := hb3.form
  obtain ⟨Ab4, cb4, rfl, hlb4, hmb4⟩ := hb4.form
  unfold maxLen at hma1 hmb1
  go_enter Try.func19, Try.ntmps19
  go_upto_region 1 with fail
  have he0 : Ext w ((w.alloc (Obj.cells #[(.slice Aa1 a.events.length ca1), (.slice Aa2 a.regs.length ca2), .int .i64 a.fin, (.slice Aa3 a.x.monos.length ca3), (.slice Aa4 a.y.monos.length ca4), .int .i64 a.k] 53)).alloc (Obj.cells #[(.slice Ab1 b.events.length cb1), (.slice Ab2 b.regs.length cb2), .int .i64 b.fin, (.slice Ab3 b.x.monos.length cb3), (.slice Ab4 b.y.monos.length cb4), .int .i64 b.k] 53)) := (Ext.auto)
  have hs0 : w.heap.size + 2 ≤ (((w.alloc (Obj.cells #[(.slice Aa1 a.events.length ca1), (.slice Aa2 a.regs.length ca2), .int .i64 a.fin, (.slice Aa3 a.x.monos.length ca3), (.slice Aa4 a.y.monos.length ca4), .int .i64 a.k] 53)).alloc (Obj.cells #[(.slice Ab1 b.events.length cb1), (.slice Ab2 b.regs.length cb2), .int .i64 b.fin, (.slice Ab3 b.x.monos.length cb3), (.slice Ab4 b.y.monos.length cb4), .int .i64 b.k] 53))).heap.size := by simp
  have hq0 := hide (show (((w.alloc (Obj.cells #[(.slice Aa1 a.events.length ca1), (.slice Aa2 a.regs.length ca2), .int .i64 a.fin, (.slice Aa3 a.x.monos.length ca3), (.slice Aa4 a.y.monos.length ca4), .int .i64 a.k] 53)).alloc (Obj.cells #[(.slice Ab1 b.events.length cb1), (.slice Ab2 b.regs.length cb2), .int .i64 b.fin, (.slice Ab3 b.x.monos.length cb3), (.slice Ab4 b.y.monos.length cb4), .int .i64 b.k] 53))).heap.size = w.heap.size + 2 by simp)
  have hBa_0 : Bx ((w.alloc (Obj.cells #[(.slice Aa1 a.events.length ca1), (.slice Aa2 a.regs.length ca2), .int .i64 a.fin, (.slice Aa3 a.x.monos.length ca3), (.slice Aa4 a.y.monos.length ca4), .int .i64 a.k] 53)).alloc (Obj.cells #[(.slice Ab1 b.events.length cb1), (.slice Ab2 b.regs.length cb2), .int .i64 b.fin, (.slice Ab3 b.x.monos.length cb3), (.slice Ab4 b.y.monos.length cb4), .int .i64 b.k] 53)) (w.heap.size) [(.slice Aa1 a.events.length ca1), (.slice Aa2 a.regs.length ca2), .int .i64 a.fin, (.slice Aa3 a.x.monos.length ca3), (.slice Aa4 a.y.monos.length ca4), .int .i64 a.k] := (by have := (Bx.alloc (Bx.new w #[(.slice Aa1 a.events.length ca1), (.slice Aa2 a.regs.length ca2), .int .i64 a.fin, (.slice Aa3 a.x.monos.length ca3), (.slice Aa4 a.y.monos.length ca4), .int .i64 a.k] 53) (by simp) #[(.slice Ab1 b.events.length cb1), (.slice Ab2 b.regs.length cb2), .int .i64 b.fin, (.slice Ab3 b.x.monos.length cb3), (.slice Ab4 b.y.monos.length cb4), .int .i64 b.k] 53); simpa using this)
  have hFa_0 : ∀ oo, (((w.alloc (Obj.cells #[(.slice Aa1 a.events.length ca1), (.slice Aa2 a.regs.length ca2), .int .i64 a.fin, (.slice Aa3 a.x.monos.length ca3), (.slice Aa4 a.y.monos.length ca4), .int .i64 a.k] 53)).alloc (Obj.cells #[(.slice Ab1 b.events.length cb1), (.slice Ab2 b.regs.length cb2), .int .i64 b.fin, (.slice Ab3 b.x.monos.length cb3), (.slice Ab4 b.y.monos.length cb4), .int .i64 b.k] 53))).frozen? ⟨w.heap.size, oo, none⟩ = false := fun oo => by simp
  have hBb_0 : Bx ((w.alloc (Obj.cells #[(.slice Aa1 a.events.length ca1), (.slice Aa2 a.regs.length ca2), .int .i64 a.fin, (.slice Aa3 a.x.monos.length ca3), (.slice Aa4 a.y.monos.length ca4), .int .i64 a.k] 53)).alloc (Obj.cells #[(.slice Ab1 b.events.length cb1), (.slice Ab2 b.regs.length cb2), .int .i64 b.fin, (.slice Ab3 b.x.monos.length cb3), (.slice Ab4 b.y.monos.length cb4), .int .i64 b.k] 53)) (w.heap.size + 1) [(.slice Ab1 b.events.length cb1), (.slice Ab2 b.regs.length cb2), .int .i64 b.fin, (.slice Ab3 b.x.monos.length cb3), (.slice Ab4 b.y.monos.length cb4), .int .i64 b.k] := (by have := (Bx.new (w.alloc (Obj.cells #[(.slice Aa1 a.events.length ca1), (.slice Aa2 a.regs.length ca2), .int .i64 a.fin, (.slice Aa3 a.x.monos.length ca3), (.slice Aa4 a.y.monos.length ca4), .int .i64 a.k] 53)) #[(.slice Ab1 b.events.length cb1), (.slice Ab2 b.regs.length cb2), .int .i64 b.fin, (.slice Ab3 b.x.monos.length cb3), (.slice Ab4 b.y.monos.length cb4), .int .i64 b.k] 53); simpa using this)
  have hFb_0 : ∀ oo, (((w.alloc (Obj.cells #[(.slice Aa1 a.events.length ca1), (.slice Aa2 a.regs.length ca2), .int .i64 a.fin, (.slice Aa3 a.x.monos.length ca3), (.slice Aa4 a.y.monos.length ca4), .int .i64 a.k] 53)).alloc (Obj.cells #[(.slice Ab1 b.events.length cb1), (.slice Ab2 b.regs.length cb2), .int .i64 b.fin, (.slice Ab3 b.x.monos.length cb3), (.slice Ab4 b.y.monos.length cb4), .int .i64 b.k] 53))).frozen? ⟨w.heap.size + 1, oo, none⟩ = false := fun oo => by simp
  generalize ((w.alloc (Obj.cells #[(.slice Aa1 a.events.length ca1), (.slice Aa2 a.regs.length ca2), .int .i64 a.fin, (.slice Aa3 a.x.monos.length ca3), (.slice Aa4 a.y.monos.length ca4), .int .i64 a.k] 53)).alloc (Obj.cells #[(.slice Ab1 b.events.length cb1), (.slice Ab2 b.regs.length cb2), .int .i64 b.fin, (.slice Ab3 b.x.monos.length cb3), (.slice Ab4 b.y.monos.length cb4), .int .i64 b.k] 53)) = w0 at *
  by_cases h0 : a.events.length = b.events.length
  rotate_left
  · 
    have q0 : ((a.events.length : Int) != (b.events.length : Int)) = true := by simp [h0]; try omega
    have HF := hide (symSym_ne (.inl (fun e => h0 (by rw [e]))))
    clear h0
    have ya : w.heap.size < w0.heap.size := by omega
    have xa0 := hBa_0 0 _ rfl
    have xa1 := hBa_0 1 _ rfl
    have xa2 := hBa_0 2 _ rfl
    have xa3 := hBa_0 3 _ rfl
    have xa4 := hBa_0 4 _ rfl
    have xa5 := hBa_0 5 _ rfl
    have yb : w.heap.size + 1 < w0.heap.size := by omega
    have xb0 := hBb_0 0 _ rfl
    have xb1 := hBb_0 1 _ rfl
    have xb2 := hBb_0 2 _ rfl
    have xb3 := hBb_0 3 _ rfl
    have xb4 := hBb_0 4 _ rfl
    have xb5 := hBb_0 5 _ rfl
    go_wp2
    go_ret
    exact ⟨by rw [HF.out]; rfl, Ext.hold he0⟩
  have q0 : ((a.events.length : Int) != (b.events.length : Int)) = false := by simp [h0]
  have H0 := hide h0
  clear h0
  have ya : w.heap.size < w0.heap.size := by omega
  have xa0 := hBa_0 0 _ rfl
  have xa1 := hBa_0 1 _ rfl
  have xa2 := hBa_0 2 _ rfl
  have xa3 := hBa_0 3 _ rfl
  have xa4 := hBa_0 4 _ rfl
  have xa5 := hBa_0 5 _ rfl
  have yb : w.heap.size + 1 < w0.heap.size := by omega
  have xb0 := hBb_0 0 _ rfl
  have xb1 := hBb_0 1 _ rfl
  have xb2 := hBb_0 2 _ rfl
  have xb3 := hBb_0 3 _ rfl
  have xb4 := hBb_0 4 _ rfl
  have xb5 := hBb_0 5 _ rfl
  go_wp2_with fail
  clear xa0 xa1 xa2 xa3 xa4 xa5 ya
  clear xb0 xb1 xb2 xb3 xb4 xb5 yb
  refine (l9Polys_any a.regs b.regs _ _ _ (ha2.ext he0) (hb2.ext he0)).mono ?_
  rintro e w1 ⟨rfl, hy⟩
  have hx1 : Ext w0 w1 := Ext.trans (Ext.auto) hy
  have hs1 := hx1.size
  have he1 : Ext w w1 := he0.trans hx1
  have hBa_1 : Bx w1 (w.heap.size) [(.slice Aa1 a.events.length ca1), (.slice Aa2 a.regs.length ca2), .int .i64 a.fin, (.slice Aa3 a.x.monos.length ca3), (.slice Aa4 a.y.monos.length ca4), .int .i64 a.k] := hx1.bx hBa_0 (by omega)
  have hFa_1 : ∀ oo, w1.frozen? ⟨w.heap.size, oo, none⟩ = false := fun oo => (hx1.frozen (by omega)).trans (hFa_0 oo)
  have hBb_1 : Bx w1 (w.heap.size + 1) [(.slice Ab1 b.events.length cb1), (.slice Ab2 b.regs.length cb2), .int .i64 b.fin, (.slice Ab3 b.x.monos.length cb3), (.slice Ab4 b.y.monos.length cb4), .int .i64 b.k] := hx1.bx hBb_0 (by omega)
  have hFb_1 : ∀ oo, w1.frozen? ⟨w.heap.size + 1, oo, none⟩ = false := fun oo => (hx1.frozen (by omega)).trans (hFb_0 oo)
  clear hBa_0 hFa_0 hBb_0 hFb_0
  clear hy
  by_cases h1 : a.regs = b.regs
  rotate_left
  · 
    have q1 : decide (a.regs = b.regs) = false := by simp [h1]
    have HF := hide (symSym_ne (.inr (.inl h1)))
    clear h1
    have ya : w.heap.size < w1.heap.size := by omega
    have xa0 := hBa_1 0 _ rfl
    have xa1 := hBa_1 1 _ rfl
    have xa2 := hBa_1 2 _ rfl
    have xa3 := hBa_1 3 _ rfl
    have xa4 := hBa_1 4 _ rfl
    have xa5 := hBa_1 5 _ rfl
    have yb : w.heap.size + 1 < w1.heap.size := by omega
    have xb0 := hBb_1 0 _ rfl
    have xb1 := hBb_1 1 _ rfl
    have xb2 := hBb_1 2 _ rfl
    have xb3 := hBb_1 3 _ rfl
    have xb4 := hBb_1 4 _ rfl
    have xb5 := hBb_1 5 _ rfl
    go_wp2
    go_ret
    exact ⟨by rw [HF.out]; rfl, Ext.hold he1⟩
  have q1 : decide (a.regs = b.regs) = true := by simp [h1]
  have H1 := hide h1
  clear h1
  by_cases h2 : a.fin = b.fin
  rotate_left
  · 
    have q2 : (a.fin != b.fin) = true := by simp [h2]
    have HF := hide (symSym_ne (.inr (.inr (.inl h2))))
    clear h2
    have ya : w.heap.size < w1.heap.size := by omega
    have xa0 := hBa_1 0 _ rfl
    have xa1 := hBa_1 1 _ rfl
    have xa2 := hBa_1 2 _ rfl
    have xa3 := hBa_1 3 _ rfl
    have xa4 := hBa_1 4 _ rfl
    have xa5 := hBa_1 5 _ rfl
    have yb : w.heap.size + 1 < w1.heap.size := by omega
    have xb0 := hBb_1 0 _ rfl
    have xb1 := hBb_1 1 _ rfl
    have xb2 := hBb_1 2 _ rfl
    have xb3 := hBb_1 3 _ rfl
    have xb4 := hBb_1 4 _ rfl
    have xb5 := hBb_1 5 _ rfl
    go_wp2
    go_ret
    exact ⟨by rw [HF.out]; rfl, Ext.hold he1⟩
  have q2 : (a.fin != b.fin) = false := by simp [h2]
  have H2 := hide h2
  clear h2
  by_cases h3 : a.k = b.k
  rotate_left
  · 
    have q3 : (a.k != b.k) = true := by simp [h3]
    have HF := hide (symSym_ne (.inr (.inr (.inr (.inl h3)))))
    clear h3
    have ya : w.heap.size < w1.heap.size := by omega
    have xa0 := hBa_1 0 _ rfl
    have xa1 := hBa_1 1 _ rfl
    have xa2 := hBa_1 2 _ rfl
    have xa3 := hBa_1 3 _ rfl
    have xa4 := hBa_1 4 _ rfl
    have xa5 := hBa_1 5 _ rfl
    have yb : w.heap.size + 1 < w1.heap.size := by omega
    have xb0 := hBb_1 0 _ rfl
    have xb1 := hBb_1 1 _ rfl
    have xb2 := hBb_1 2 _ rfl
    have xb3 := hBb_1 3 _ rfl
    have xb4 := hBb_1 4 _ rfl
    have xb5 := hBb_1 5 _ rfl
    go_wp2
    go_ret
    exact ⟨by rw [HF.out]; rfl, Ext.hold he1⟩
  have q3 : (a.k != b.k) = false := by simp [h3]
  have H3 := hide h3
  clear h3
  have ya : w.heap.size < w1.heap.size := by omega
  have xa0 := hBa_1 0 _ rfl
  have xa1 := hBa_1 1 _ rfl
  have xa2 := hBa_1 2 _ rfl
  have xa3 := hBa_1 3 _ rfl
  have xa4 := hBa_1 4 _ rfl
  have xa5 := hBa_1 5 _ rfl
  have yb : w.heap.size + 1 < w1.heap.size := by omega
  have xb0 := hBb_1 0 _ rfl
  have xb1 := hBb_1 1 _ rfl
  have xb2 := hBb_1 2 _ rfl
  have xb3 := hBb_1 3 _ rfl
  have xb4 := hBb_1 4 _ rfl
  have xb5 := hBb_1 5 _ rfl
  go_wp2_with fail
  clear xa0 xa1 xa2 xa3 xa4 xa5 ya
  clear xb0 xb1 xb2 xb3 xb4 xb5 yb
  refine (specPolOrder_any a.x b.x _ _ _ (ha3.ext he1) (hb3.ext he1)).mono ?_
  rintro e w2 ⟨rfl, hy⟩
  have hx2 : Ext w1 w2 := Ext.trans (Ext.auto) hy
  have hs2 := hx2.size
  have he2 : Ext w w2 := he1.trans hx2
  have hBa_2 : Bx w2 (w.heap.size) [(.slice Aa1 a.events.length ca1), (.slice Aa2 a.regs.length ca2), .int .i64 a.fin, (.slice Aa3 a.x.monos.length ca3), (.slice Aa4 a.y.monos.length ca4), .int .i64 a.k] := hx2.bx hBa_1 (by omega)
  have hFa_2 : ∀ oo, w2.frozen? ⟨w.heap.size, oo, none⟩ = false := fun oo => (hx2.frozen (by omega)).trans (hFa_1 oo)
  have hBb_2 : Bx w2 (w.heap.size + 1) [(.slice Ab1 b.events.length cb1), (.slice Ab2 b.regs.length cb2), .int .i64 b.fin, (.slice Ab3 b.x.monos.length cb3), (.slice Ab4 b.y.monos.length cb4), .int .i64 b.k] := hx2.bx hBb_1 (by omega)
  have hFb_2 : ∀ oo, w2.frozen? ⟨w.heap.size + 1, oo, none⟩ = false := fun oo => (hx2.frozen (by omega)).trans (hFb_1 oo)
  clear hBa_1 hFa_1 hBb_1 hFb_1
  clear hy
  by_cases h4 : a.x = b.x
  rotate_left
  · 
    have q4 : (polOrd a.x b.x != 0) = true := by rw [polOrd_bne]; simp [h4]
    have HF := hide (symSym_ne (.inr (.inr (.inr (.inr (.inl h4))))))
    clear h4
    have ya : w.heap.size < w2.heap.size := by omega
    have xa0 := hBa_2 0 _ rfl
    have xa1 := hBa_2 1 _ rfl
    have xa2 := hBa_2 2 _ rfl
    have xa3 := hBa_2 3 _ rfl
    have xa4 := hBa_2 4 _ rfl
    have xa5 := hBa_2 5 _ rfl
    have yb : w.heap.size + 1 < w2.heap.size := by omega
    have xb0 := hBb_2 0 _ rfl
    have xb1 := hBb_2 1 _ rfl
    have xb2 := hBb_2 2 _ rfl
    have xb3 := hBb_2 3 _ rfl
    have xb4 := hBb_2 4 _ rfl
    have xb5 := hBb_2 5 _ rfl
    go_wp2
    go_ret
    exact ⟨by rw [HF.out]; rfl, Ext.hold he2⟩
  have q4 : (polOrd a.x b.x != 0) = false := by rw [polOrd_bne]; simp [h4]
  have H4 := hide h4
  clear h4
  have ya : w.heap.size < w2.heap.size := by omega
  have xa0 := hBa_2 0 _ rfl
  have xa1 := hBa_2 1 _ rfl
  have xa2 := hBa_2 2 _ rfl
  have xa3 := hBa_2 3 _ rfl
  have xa4 := hBa_2 4 _ rfl
  have xa5 := hBa_2 5 _ rfl
  have yb : w.heap.size + 1 < w2.heap.size := by omega
  have xb0 := hBb_2 0 _ rfl
  have xb1 := hBb_2 1 _ rfl
  have xb2 := hBb_2 2 _ rfl
  have xb3 := hBb_2 3 _ rfl
  have xb4 := hBb_2 4 _ rfl
  have xb5 := hBb_2 5 _ rfl
  go_wp2_with fail
  clear xa0 xa1 xa2 xa3 xa4 xa5 ya
  clear xb0 xb1 xb2 xb3 xb4 xb5 yb
  refine (specPolOrder_any a.y b.y _ _ _ (ha4.ext he2) (hb4.ext he2)).mono ?_
  rintro e w3 ⟨rfl, hy⟩
  have hx3 : Ext w2 w3 := Ext.trans (Ext.auto) hy
  have hs3 := hx3.size
  have he3 : Ext w w3 := he2.trans hx3
  have hBa_3 : Bx w3 (w.heap.size) [(.slice Aa1 a.events.length ca1), (.slice Aa2 a.regs.length ca2), .int .i64 a.fin, (.slice Aa3 a.x.monos.length ca3), (.slice Aa4 a.y.monos.length ca4), .int .i64 a.k] := hx3.bx hBa_2 (by omega)
  have hFa_3 : ∀ oo, w3.frozen? ⟨w.heap.size, oo, none⟩ = false := fun oo => (hx3.frozen (by omega)).trans (hFa_2 oo)
  have hBb_3 : Bx w3 (w.heap.size + 1) [(.slice Ab1 b.events.length cb1), (.slice Ab2 b.regs.length cb2), .int .i64 b.fin, (.slice Ab3 b.x.monos.length cb3), (.slice Ab4 b.y.monos.length cb4), .int .i64 b.k] := hx3.bx hBb_2 (by omega)
  have hFb_3 : ∀ oo, w3.frozen? ⟨w.heap.size + 1, oo, none⟩ = false := fun oo => (hx3.frozen (by omega)).trans (hFb_2 oo)
  clear hBa_2 hFa_2 hBb_2 hFb_2
  clear hy
  by_cases h5 : a.y = b.y
  rotate_left
  · 
    have q5 : (polOrd a.y b.y != 0) = true := by rw [polOrd_bne]; simp [h5]
    have HF := hide (symSym_ne (.inr (.inr (.inr (.inr (.inr h5))))))
    clear h5
    have ya : w.heap.size < w3.heap.size := by omega
    have xa0 := hBa_3 0 _ rfl
    have xa1 := hBa_3 1 _ rfl
    have xa2 := hBa_3 2 _ rfl
    have xa3 := hBa_3 3 _ rfl
    have xa4 := hBa_3 4 _ rfl
    have xa5 := hBa_3 5 _ rfl
    have yb : w.heap.size + 1 < w3.heap.size := by omega
    have xb0 := hBb_3 0 _ rfl
    have xb1 := hBb_3 1 _ rfl
    have xb2 := hBb_3 2 _ rfl
    have xb3 := hBb_3 3 _ rfl
    have xb4 := hBb_3 4 _ rfl
    have xb5 := hBb_3 5 _ rfl
    go_wp2
    go_ret
    exact ⟨by rw [HF.out]; rfl, Ext.hold he3⟩
  have q5 : (polOrd a.y b.y != 0) = false := by rw [polOrd_bne]; simp [h5]
  have H5 := hide h5
  clear h5
  have ya : w.heap.size < w3.heap.size := by omega
  have xa0 := hBa_3 0 _ rfl
  have xa1 := hBa_3 1 _ rfl
  have xa2 := hBa_3 2 _ rfl
  have xa3 := hBa_3 3 _ rfl
  have xa4 := hBa_3 4 _ rfl
  have xa5 := hBa_3 5 _ rfl
  have yb : w.heap.size + 1 < w3.heap.size := by omega
  have xb0 := hBb_3 0 _ rfl
  have xb1 := hBb_3 1 _ rfl
  have xb2 := hBb_3 2 _ rfl
  have xb3 := hBb_3 3 _ rfl
  have xb4 := hBb_3 4 _ rfl
  have xb5 := hBb_3 5 _ rfl
  go_wp2_with fail
  clear xa0 xa1 xa2 xa3 xa4 xa5 ya
  clear xb0 xb1 xb2 xb3 xb4 xb5 yb
  go_loopw [5] (fun i wr => ∃ k : Nat, k ≤ a.events.length ∧ i = .int .i64 k ∧ Ext w3 wr ∧ Hid (a.events.take k = b.events.take k)) (fun i _ => a.events.length - (intOf i).toNat)
  case atStart => exact ⟨0, by omega, rfl, Ext.refl _, rfl⟩
  case round =>
    obtain ⟨k, hk, rfl, hx0, HT⟩ := hrel
    obtain ⟨v1, hw1⟩ : ∃ v1 : World, v1 = wr := ⟨_, rfl⟩
    subst hw1
    have hz1 := hx0.size
    have he := he3.trans hx0
    have xa0 : v1.cell? ⟨w.heap.size, 0, none⟩ = some ((.slice Aa1 a.events.length ca1)) := (hx0.bx hBa_3 (by omega)) 0 _ rfl
    have xb0 : v1.cell? ⟨w.heap.size + 1, 0, none⟩ = some ((.slice Ab1 b.events.length cb1)) := (hx0.bx hBb_3 (by omega)) 0 _ rfl
    have ya : w.heap.size < v1.heap.size := by omega
    have yb : w.heap.size + 1 < v1.heap.size := by omega
    by_cases hlt : k < a.events.length
    · have hlt' : k < b.events.length := by have := H0.out; omega
      obtain ⟨ea, offa, va1, va2, va3, rfl, hea, hka, hva1, hva2, hva3, e0, e1, e2, e3, e4⟩ := at_SymEvent (ha1.ext he) hlt
      obtain ⟨eb, offb, vb1, vb2, vb3, rfl, heb, hkb, hvb1, hvb2, hvb3, g0, g1, g2, g3, g4⟩ := at_SymEvent (hb1.ext he) hlt'
      have hea1 : ea < v1.heap.size := hea
      have heb1 : eb < v1.heap.size := heb
      have z0 : (0 : Int) ≤ (k : Int) := by omega
      have z1 : (k : Int) < (a.events.length : Int) := by omega
      have z2 : (k : Int) < (b.events.length : Int) := by omega
      go_upto_region 6 with fail
      have hS : ∀ w', Ext v1 w' → ∀ bb oo, bb < v1.heap.size → w'.cell? ⟨bb, oo, none⟩ = v1.cell? ⟨bb, oo, none⟩ := fun w' hx bb oo hb => hx.cell hb
      refine wp_region_plan (fun w' => Ext v1 w') 10 (.float 0 (.float 1 (.float 2 (.float 3 (.float 4 (.float 5 (.float 6 (.float 7 (.float 8 (.float 9 (.tail 10))))))))))) (by kernel_rfl) (by kernel_rfl) (Ext.refl _).drew ?_
      iterate 10 ((refine Plan.float_step (v := ?_) rfl (by rfl) (fun _ _ _ h => h) (fun w' hSw => ?_) ?_; rotate_left; · (go_simp; try with_reducible rfl)); (try simp only [Act.put, List.setIfInBounds_toArray, List.set_cons_zero, List.set_cons_succ]))
      refine Plan.tail_step ?_
      simp only [List.drop_succ_cons, List.drop_zero]
      clear hS
      go_wp2_with fail
      refine (l9Event_any a.events[k] b.events[k] _ _ _ _ _ _ _ (hva1.ext Ext.auto) (hva2.ext Ext.auto) (hva3.ext Ext.auto) (hvb1.ext Ext.auto) (hvb2.ext Ext.auto) (hvb3.ext Ext.auto)).mono ?_
      rintro e v2 ⟨rfl, hy⟩
      have hx1 : Ext v1 v2 := Ext.trans Ext.auto hy
      clear hy
      by_cases hq : a.events[k] = b.events[k]
      · have q9 : decide (a.events[k] = b.events[k]) = true := by simp [hq]
        have HN := hide (take_both3 hlt hlt' HT.out hq)
        clear hq
        go_wp2_with fail
        go_roundw
        case rel => exact ⟨k + 1, by omega, by go_num, hx0.trans hx1, HN.out⟩
        case measure => (simp [intOf]; try omega)
      · have q9 : decide (a.events[k] = b.events[k]) = false := by simp [hq]
        have HF := hide (symSym_ne (.inl (fun e => hq (List.getElem_of_eq e hlt))))
        clear hq
        go_wp2
        go_ret
        exact ⟨by rw [HF.out]; rfl, he.trans hx1⟩
    · 
      obtain rfl : k = a.events.length := by omega
      have HF := hide (symSym_eq (by have := HT.out; rwa [List.take_length, H0.out, List.take_length] at this) H1.out H2.out H3.out H4.out H5.out)
      go_wp2
      go_ret
      exact ⟨by rw [HF.out]; rfl, he⟩

end Go.Proofs.Ytpneijbjheeobaa
