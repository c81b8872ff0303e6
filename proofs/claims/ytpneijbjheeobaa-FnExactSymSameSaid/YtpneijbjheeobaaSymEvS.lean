/-
  Events are the same: the reference.
-/
import Derived.Test.YtpneijbjheeobaaSymOrdS
import Derived.Deep.DeepCutAuto
namespace Go.Proofs.Ytpneijbjheeobaa
open Go.RowKit

set_option linter.unusedVariables false
set_option linter.unusedSimpArgs false
set_option maxRecDepth 100000

theorem symEvent_ne {a b : SymEvent} (h : a.kind ≠ b.kind ∨ a.at_ ≠ b.at_ ∨ a.x ≠ b.x ∨ a.y ≠ b.y ∨ a.regs ≠ b.regs) : decide (a = b) = false := by
  rw [decide_eq_false_iff_not]; intro e; subst e; simp at h
theorem symEvent_eq {a b : SymEvent} (h1 : a.kind = b.kind) (h2 : a.at_ = b.at_) (h3 : a.x = b.x) (h4 : a.y = b.y) (h5 : a.regs = b.regs) : decide (a = b) = true := by
  rw [decide_eq_true_iff]; cases a; cases b; simp_all

set_option maxHeartbeats 16000000 in
theorem l9Event_any (a : SymEvent) (b : SymEvent) (va1 va2 va3 vb1 vb2 vb3 : Value) (w : World) (ha1 : Sl w (Old w) va1 a.x.monos) (ha2 : Sl w (Old w) va2 a.y.monos) (ha3 : Sl w (Old w) va3 a.regs) (hb1 : Sl w (Old w) vb1 b.x.monos) (hb2 : Sl w (Old w) vb2 b.y.monos) (hb3 : Sl w (Old w) vb3 b.regs)  :
    Calls Try.prog 69 #[.agg #[.int .i64 a.kind, .int .i64 a.at_, va1, va2, va3], .agg #[.int .i64 b.kind, .int .i64 b.at_, vb1, vb2, vb3]] w fun e w' => e = .returned (.bool (decide (a = b))) ∧ Ext w w' := by
  obtain ⟨Aa1, ca1, rfl, hla1, hma1⟩ := ha1.form
  obtain ⟨Aa2, ca2, rfl, hla2, hma2⟩ := ha2.form
  obtain ⟨Aa3, ca3, rfl, hla3, hma3⟩ := ha3.form
  obtain ⟨Ab1, cb1, rfl, hlb1, hmb1⟩ := hb1.form
  obtain ⟨Ab2, cb2, rfl, hlb2, hmb2⟩ := hb2.form
  obtain ⟨Ab3, cb3, rfl, hlb3, hmb3⟩ := hb3.form
  go_enter Try.func69, Try.ntmps69
  go_upto_region 1 with fail
  have he0 : Ext w ((w.alloc (Obj.cells #[.int .i64 a.kind, .int .i64 a.at_, (.slice Aa1 a.x.monos.length ca1), (.slice Aa2 a.y.monos.length ca2), (.slice Aa3 a.regs.length ca3)] 114)).alloc (Obj.cells #[.int .i64 b.kind, .int .i64 b.at_, (.slice Ab1 b.x.monos.length cb1), (.slice Ab2 b.y.monos.length cb2), (.slice Ab3 b.regs.length cb3)] 114)) := (Ext.auto)
  have hs0 : w.heap.size + 2 ≤ (((w.alloc (Obj.cells #[.int .i64 a.kind, .int .i64 a.at_, (.slice Aa1 a.x.monos.length ca1), (.slice Aa2 a.y.monos.length ca2), (.slice Aa3 a.regs.length ca3)] 114)).alloc (Obj.cells #[.int .i64 b.kind, .int .i64 b.at_, (.slice Ab1 b.x.monos.length cb1), (.slice Ab2 b.y.monos.length cb2), (.slice Ab3 b.regs.length cb3)] 114))).heap.size := by simp
  have hq0 := hide (show (((w.alloc (Obj.cells #[.int .i64 a.kind, .int .i64 a.at_, (.slice Aa1 a.x.monos.length ca1), (.slice Aa2 a.y.monos.length ca2), (.slice Aa3 a.regs.length ca3)] 114)).alloc (Obj.cells #[.int .i64 b.kind, .int .i64 b.at_, (.slice Ab1 b.x.monos.length cb1), (.slice Ab2 b.y.monos.length cb2), (.slice Ab3 b.regs.length cb3)] 114))).heap.size = w.heap.size + 2 by simp)
  have hBa_0 : Bx ((w.alloc (Obj.cells #[.int .i64 a.kind, .int .i64 a.at_, (.slice Aa1 a.x.monos.length ca1), (.slice Aa2 a.y.monos.length ca2), (.slice Aa3 a.regs.length ca3)] 114)).alloc (Obj.cells #[.int .i64 b.kind, .int .i64 b.at_, (.slice Ab1 b.x.monos.length cb1), (.slice Ab2 b.y.monos.length cb2), (.slice Ab3 b.regs.length cb3)] 114)) (w.heap.size) [.int .i64 a.kind, .int .i64 a.at_, (.slice Aa1 a.x.monos.length ca1), (.slice Aa2 a.y.monos.length ca2), (.slice Aa3 a.regs.length ca3)] := (by have := (Bx.alloc (Bx.new w #[.int .i64 a.kind, .int .i64 a.at_, (.slice Aa1 a.x.monos.length ca1), (.slice Aa2 a.y.monos.length ca2), (.slice Aa3 a.regs.length ca3)] 114) (by simp) #[.int .i64 b.kind, .int .i64 b.at_, (.slice Ab1 b.x.monos.length cb1), (.slice Ab2 b.y.monos.length cb2), (.slice Ab3 b.regs.length cb3)] 114); simpa using this)
  have hFa_0 : ∀ oo, (((w.alloc (Obj.cells #[.int .i64 a.kind, .int .i64 a.at_, (.slice Aa1 a.x.monos.length ca1), (.slice Aa2 a.y.monos.length ca2), (.slice Aa3 a.regs.length ca3)] 114)).alloc (Obj.cells #[.int .i64 b.kind, .int .i64 b.at_, (.slice Ab1 b.x.monos.length cb1), (.slice Ab2 b.y.monos.length cb2), (.slice Ab3 b.regs.length cb3)] 114))).frozen? ⟨w.heap.size, oo, none⟩ = false := fun oo => by simp
  have hBb_0 : Bx ((w.alloc (Obj.cells #[.int .i64 a.kind, .int .i64 a.at_, (.slice Aa1 a.x.monos.length ca1), (.slice Aa2 a.y.monos.length ca2), (.slice Aa3 a.regs.length ca3)] 114)).alloc (Obj.cells #[.int .i64 b.kind, .int .i64 b.at_, (.slice Ab1 b.x.monos.length cb1), (.slice Ab2 b.y.monos.length cb2), (.slice Ab3 b.regs.length cb3)] 114)) (w.heap.size + 1) [.int .i64 b.kind, .int .i64 b.at_, (.slice Ab1 b.x.monos.length cb1), (.slice Ab2 b.y.monos.length cb2), (.slice Ab3 b.regs.length cb3)] := (by have := (Bx.new (w.alloc (Obj.cells #[.int .i64 a.kind, .int .i64 a.at_, (.slice Aa1 a.x.monos.length ca1), (.slice Aa2 a.y.monos.length ca2), (.slice Aa3 a.regs.length ca3)] 114)) #[.int .i64 b.kind, .int .i64 b.at_, (.slice Ab1 b.x.monos.length cb1), (.slice Ab2 b.y.monos.length cb2), (.slice Ab3 b.regs.length cb3)] 114); simpa using this)
  have hFb_0 : ∀ oo, (((w.alloc (Obj.cells #[.int .i64 a.kind, .int .i64 a.at_, (.slice Aa1 a.x.monos.length ca1), (.slice Aa2 a.y.monos.length ca2), (.slice Aa3 a.regs.length ca3)] 114)).alloc (Obj.cells #[.int .i64 b.kind, .int .i64 b.at_, (.slice Ab1 b.x.monos.length cb1), (.slice Ab2 b.y.monos.length cb2), (.slice Ab3 b.regs.length cb3)] 114))).frozen? ⟨w.heap.size + 1, oo, none⟩ = false := fun oo => by simp
  generalize ((w.alloc (Obj.cells #[.int .i64 a.kind, .int .i64 a.at_, (.slice Aa1 a.x.monos.length ca1), (.slice Aa2 a.y.monos.length ca2), (.slice Aa3 a.regs.length ca3)] 114)).alloc (Obj.cells #[.int .i64 b.kind, .int .i64 b.at_, (.slice Ab1 b.x.monos.length cb1), (.slice Ab2 b.y.monos.length cb2), (.slice Ab3 b.regs.length cb3)] 114)) = w0 at *
  by_cases h0 : a.kind = b.kind
  rotate_left
  · 
    have q0 : (a.kind == b.kind) = false := by simp [h0]
    have HF := hide (symEvent_ne (.inl h0))
    clear h0
    have ya : w.heap.size < w0.heap.size := by omega
    have xa0 := hBa_0 0 _ rfl
    have xa1 := hBa_0 1 _ rfl
    have xa2 := hBa_0 2 _ rfl
    have xa3 := hBa_0 3 _ rfl
    have xa4 := hBa_0 4 _ rfl
    have yb : w.heap.size + 1 < w0.heap.size := by omega
    have xb0 := hBb_0 0 _ rfl
    have xb1 := hBb_0 1 _ rfl
    have xb2 := hBb_0 2 _ rfl
    have xb3 := hBb_0 3 _ rfl
    have xb4 := hBb_0 4 _ rfl
    go_wp2
    go_ret
    exact ⟨by rw [HF.out]; rfl, Ext.hold he0⟩
  have q0 : (a.kind == b.kind) = true := by simp [h0]
  have H0 := hide h0
  clear h0
  by_cases h1 : a.at_ = b.at_
  rotate_left
  · 
    have q1 : (a.at_ == b.at_) = false := by simp [h1]
    have HF := hide (symEvent_ne (.inr (.inl h1)))
    clear h1
    have ya : w.heap.size < w0.heap.size := by omega
    have xa0 := hBa_0 0 _ rfl
    have xa1 := hBa_0 1 _ rfl
    have xa2 := hBa_0 2 _ rfl
    have xa3 := hBa_0 3 _ rfl
    have xa4 := hBa_0 4 _ rfl
    have yb : w.heap.size + 1 < w0.heap.size := by omega
    have xb0 := hBb_0 0 _ rfl
    have xb1 := hBb_0 1 _ rfl
    have xb2 := hBb_0 2 _ rfl
    have xb3 := hBb_0 3 _ rfl
    have xb4 := hBb_0 4 _ rfl
    go_wp2
    go_ret
    exact ⟨by rw [HF.out]; rfl, Ext.hold he0⟩
  have q1 : (a.at_ == b.at_) = true := by simp [h1]
  have H1 := hide h1
  clear h1
  have ya : w.heap.size < w0.heap.size := by omega
  have xa0 := hBa_0 0 _ rfl
  have xa1 := hBa_0 1 _ rfl
  have xa2 := hBa_0 2 _ rfl
  have xa3 := hBa_0 3 _ rfl
  have xa4 := hBa_0 4 _ rfl
  have yb : w.heap.size + 1 < w0.heap.size := by omega
  have xb0 := hBb_0 0 _ rfl
  have xb1 := hBb_0 1 _ rfl
  have xb2 := hBb_0 2 _ rfl
  have xb3 := hBb_0 3 _ rfl
  have xb4 := hBb_0 4 _ rfl
  go_wp2_with fail
  clear xa0 xa1 xa2 xa3 xa4 ya
  clear xb0 xb1 xb2 xb3 xb4 yb
  refine (specPolOrder_any a.x b.x _ _ _ (ha1.ext he0) (hb1.ext he0)).mono ?_
  rintro e w1 ⟨rfl, hy⟩
  have hx1 : Ext w0 w1 := Ext.trans (Ext.auto) hy
  have hs1 := hx1.size
  have he1 : Ext w w1 := he0.trans hx1
  have hBa_1 : Bx w1 (w.heap.size) [.int .i64 a.kind, .int .i64 a.at_, (.slice Aa1 a.x.monos.length ca1), (.slice Aa2 a.y.monos.length ca2), (.slice Aa3 a.regs.length ca3)] := hx1.bx hBa_0 (by omega)
  have hFa_1 : ∀ oo, w1.frozen? ⟨w.heap.size, oo, none⟩ = false := fun oo => (hx1.frozen (by omega)).trans (hFa_0 oo)
  have hBb_1 : Bx w1 (w.heap.size + 1) [.int .i64 b.kind, .int .i64 b.at_, (.slice Ab1 b.x.monos.length cb1), (.slice Ab2 b.y.monos.length cb2), (.slice Ab3 b.regs.length cb3)] := hx1.bx hBb_0 (by omega)
  have hFb_1 : ∀ oo, w1.frozen? ⟨w.heap.size + 1, oo, none⟩ = false := fun oo => (hx1.frozen (by omega)).trans (hFb_0 oo)
  clear hBa_0 hFa_0 hBb_0 hFb_0
  clear hy
  by_cases h2 : a.x = b.x
  rotate_left
  · 
    have q2 : (polOrd a.x b.x == 0) = false := by rw [polOrd_same]; simp [h2]
    have HF := hide (symEvent_ne (.inr (.inr (.inl h2))))
    clear h2
    have ya : w.heap.size < w1.heap.size := by omega
    have xa0 := hBa_1 0 _ rfl
    have xa1 := hBa_1 1 _ rfl
    have xa2 := hBa_1 2 _ rfl
    have xa3 := hBa_1 3 _ rfl
    have xa4 := hBa_1 4 _ rfl
    have yb : w.heap.size + 1 < w1.heap.size := by omega
    have xb0 := hBb_1 0 _ rfl
    have xb1 := hBb_1 1 _ rfl
    have xb2 := hBb_1 2 _ rfl
    have xb3 := hBb_1 3 _ rfl
    have xb4 := hBb_1 4 _ rfl
    go_wp2
    go_ret
    exact ⟨by rw [HF.out]; rfl, Ext.hold he1⟩
  have q2 : (polOrd a.x b.x == 0) = true := by rw [polOrd_same]; simp [h2]
  have H2 := hide h2
  clear h2
  have ya : w.heap.size < w1.heap.size := by omega
  have xa0 := hBa_1 0 _ rfl
  have xa1 := hBa_1 1 _ rfl
  have xa2 := hBa_1 2 _ rfl
  have xa3 := hBa_1 3 _ rfl
  have xa4 := hBa_1 4 _ rfl
  have yb : w.heap.size + 1 < w1.heap.size := by omega
  have xb0 := hBb_1 0 _ rfl
  have xb1 := hBb_1 1 _ rfl
  have xb2 := hBb_1 2 _ rfl
  have xb3 := hBb_1 3 _ rfl
  have xb4 := hBb_1 4 _ rfl
  go_wp2_with fail
  clear xa0 xa1 xa2 xa3 xa4 ya
  clear xb0 xb1 xb2 xb3 xb4 yb
  refine (specPolOrder_any a.y b.y _ _ _ (ha2.ext he1) (hb2.ext he1)).mono ?_
  rintro e w2 ⟨rfl, hy⟩
  have hx2 : Ext w1 w2 := Ext.trans (Ext.auto) hy
  have hs2 := hx2.size
  have he2 : Ext w w2 := he1.trans hx2
  have hBa_2 : Bx w2 (w.heap.size) [.int .i64 a.kind, .int .i64 a.at_, (.slice Aa1 a.x.monos.length ca1), (.slice Aa2 a.y.monos.length ca2), (.slice Aa3 a.regs.length ca3)] := hx2.bx hBa_1 (by omega)
  have hFa_2 : ∀ oo, w2.frozen? ⟨w.heap.size, oo, none⟩ = false := fun oo => (hx2.frozen (by omega)).trans (hFa_1 oo)
  have hBb_2 : Bx w2 (w.heap.size + 1) [.int .i64 b.kind, .int .i64 b.at_, (.slice Ab1 b.x.monos.length cb1), (.slice Ab2 b.y.monos.length cb2), (.slice Ab3 b.regs.length cb3)] := hx2.bx hBb_1 (by omega)
  have hFb_2 : ∀ oo, w2.frozen? ⟨w.heap.size + 1, oo, none⟩ = false := fun oo => (hx2.frozen (by omega)).trans (hFb_1 oo)
  clear hBa_1 hFa_1 hBb_1 hFb_1
  clear hy
  by_cases h3 : a.y = b.y
  rotate_left
  · 
    have q3 : (polOrd a.y b.y == 0) = false := by rw [polOrd_same]; simp [h3]
    have HF := hide (symEvent_ne (.inr (.inr (.inr (.inl h3)))))
    clear h3
    have ya : w.heap.size < w2.heap.size := by omega
    have xa0 := hBa_2 0 _ rfl
    have xa1 := hBa_2 1 _ rfl
    have xa2 := hBa_2 2 _ rfl
    have xa3 := hBa_2 3 _ rfl
    have xa4 := hBa_2 4 _ rfl
    have yb : w.heap.size + 1 < w2.heap.size := by omega
    have xb0 := hBb_2 0 _ rfl
    have xb1 := hBb_2 1 _ rfl
    have xb2 := hBb_2 2 _ rfl
    have xb3 := hBb_2 3 _ rfl
    have xb4 := hBb_2 4 _ rfl
    go_wp2
    go_ret
    exact ⟨by rw [HF.out]; rfl, Ext.hold he2⟩
  have q3 : (polOrd a.y b.y == 0) = true := by rw [polOrd_same]; simp [h3]
  have H3 := hide h3
  clear h3
  have ya : w.heap.size < w2.heap.size := by omega
  have xa0 := hBa_2 0 _ rfl
  have xa1 := hBa_2 1 _ rfl
  have xa2 := hBa_2 2 _ rfl
  have xa3 := hBa_2 3 _ rfl
  have xa4 := hBa_2 4 _ rfl
  have yb : w.heap.size + 1 < w2.heap.size := by omega
  have xb0 := hBb_2 0 _ rfl
  have xb1 := hBb_2 1 _ rfl
  have xb2 := hBb_2 2 _ rfl
  have xb3 := hBb_2 3 _ rfl
  have xb4 := hBb_2 4 _ rfl
  go_wp2_with fail
  clear xa0 xa1 xa2 xa3 xa4 ya
  clear xb0 xb1 xb2 xb3 xb4 yb
  refine (l9Polys_any a.regs b.regs _ _ _ (ha3.ext he2) (hb3.ext he2)).mono ?_
  rintro e w3 ⟨rfl, hy⟩
  have hx3 : Ext w2 w3 := Ext.trans (Ext.auto) hy
  have hs3 := hx3.size
  have he3 : Ext w w3 := he2.trans hx3
  have hBa_3 : Bx w3 (w.heap.size) [.int .i64 a.kind, .int .i64 a.at_, (.slice Aa1 a.x.monos.length ca1), (.slice Aa2 a.y.monos.length ca2), (.slice Aa3 a.regs.length ca3)] := hx3.bx hBa_2 (by omega)
  have hFa_3 : ∀ oo, w3.frozen? ⟨w.heap.size, oo, none⟩ = false := fun oo => (hx3.frozen (by omega)).trans (hFa_2 oo)
  have hBb_3 : Bx w3 (w.heap.size + 1) [.int .i64 b.kind, .int .i64 b.at_, (.slice Ab1 b.x.monos.length cb1), (.slice Ab2 b.y.monos.length cb2), (.slice Ab3 b.regs.length cb3)] := hx3.bx hBb_2 (by omega)
  have hFb_3 : ∀ oo, w3.frozen? ⟨w.heap.size + 1, oo, none⟩ = false := fun oo => (hx3.frozen (by omega)).trans (hFb_2 oo)
  clear hBa_2 hFa_2 hBb_2 hFb_2
  clear hy
  by_cases h4 : a.regs = b.regs
  rotate_left
  · 
    have q4 : decide (a.regs = b.regs) = false := by simp [h4]
    have HF := hide (symEvent_ne (.inr (.inr (.inr (.inr h4)))))
    clear h4
    have ya : w.heap.size < w3.heap.size := by omega
    have xa0 := hBa_3 0 _ rfl
    have xa1 := hBa_3 1 _ rfl
    have xa2 := hBa_3 2 _ rfl
    have xa3 := hBa_3 3 _ rfl
    have xa4 := hBa_3 4 _ rfl
    have yb : w.heap.size + 1 < w3.heap.size := by omega
    have xb0 := hBb_3 0 _ rfl
    have xb1 := hBb_3 1 _ rfl
    have xb2 := hBb_3 2 _ rfl
    have xb3 := hBb_3 3 _ rfl
    have xb4 := hBb_3 4 _ rfl
    go_wp2
    go_ret
    exact ⟨by rw [HF.out]; rfl, Ext.hold he3⟩
  have q4 : decide (a.regs = b.regs) = true := by simp [h4]
  have H4 := hide h4
  clear h4
  have HF := hide (symEvent_eq H0.out H1.out H2.out H3.out H4.out)
  have ya : w.heap.size < w3.heap.size := by omega
  have xa0 := hBa_3 0 _ rfl
  have xa1 := hBa_3 1 _ rfl
  have xa2 := hBa_3 2 _ rfl
  have xa3 := hBa_3 3 _ rfl
  have xa4 := hBa_3 4 _ rfl
  have yb : w.heap.size + 1 < w3.heap.size := by omega
  have xb0 := hBb_3 0 _ rfl
  have xb1 := hBb_3 1 _ rfl
  have xb2 := hBb_3 2 _ rfl
  have xb3 := hBb_3 3 _ rfl
  have xb4 := hBb_3 4 _ rfl
  go_wp2
  go_ret
  exact ⟨by rw [HF.out]; rfl, Ext.hold he3⟩

end Go.Proofs.Ytpneijbjheeobaa
