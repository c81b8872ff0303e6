/-
  What pieces of code do is the same: the program.
-/
import Derived.Test.YtpneijbjheeobaaSymOrdI
import Derived.Test.YtpneijbjheeobaaSymEvS
import Derived.Test.YtpneijbjheeobaaSymSameS
import Derived.Deep.DeepCutAuto
namespace Go.Proofs.Ytpneijbjheeobaa
open Go.RowKit

set_option linter.unusedVariables false
set_option linter.unusedSimpArgs false
set_option maxRecDepth 100000

set_option maxHeartbeats 4000000 in
theorem samePolC_any (a : TrmPoly) (b : TrmPoly) (va1 vb1 : Value) (w : World) (ha1 : Sl w (Old w) va1 a.monos) (hb1 : Sl w (Old w) vb1 b.monos)  :
    Calls Try.prog 137 #[.agg #[va1], .agg #[vb1]] w fun e w' => e = .returned (.bool (decide (a = b))) ∧ Ext w w' := by
  obtain ⟨Aa1, ca1, rfl, hla1, hma1⟩ := ha1.form
  obtain ⟨Ab1, cb1, rfl, hlb1, hmb1⟩ := hb1.form
  go_enter Try.func137, Try.ntmps137
  go_upto_region 1 with fail
  have he0 : Ext w ((w.alloc (Obj.cells #[(.slice Aa1 a.monos.length ca1)] 51)).alloc (Obj.cells #[(.slice Ab1 b.monos.length cb1)] 51)) := (Ext.auto)
  have hs0 : w.heap.size + 2 ≤ (((w.alloc (Obj.cells #[(.slice Aa1 a.monos.length ca1)] 51)).alloc (Obj.cells #[(.slice Ab1 b.monos.length cb1)] 51))).heap.size := by simp
  have hq0 := hide (show (((w.alloc (Obj.cells #[(.slice Aa1 a.monos.length ca1)] 51)).alloc (Obj.cells #[(.slice Ab1 b.monos.length cb1)] 51))).heap.size = w.heap.size + 2 by simp)
  have hBa_0 : Bx ((w.alloc (Obj.cells #[(.slice Aa1 a.monos.length ca1)] 51)).alloc (Obj.cells #[(.slice Ab1 b.monos.length cb1)] 51)) (w.heap.size) [(.slice Aa1 a.monos.length ca1)] := (by have := (Bx.alloc (Bx.new w #[(.slice Aa1 a.monos.length ca1)] 51) (by simp) #[(.slice Ab1 b.monos.length cb1)] 51); simpa using this)
  have hFa_0 : ∀ oo, (((w.alloc (Obj.cells #[(.slice Aa1 a.monos.length ca1)] 51)).alloc (Obj.cells #[(.slice Ab1 b.monos.length cb1)] 51))).frozen? ⟨w.heap.size, oo, none⟩ = false := fun oo => by simp
  have hBb_0 : Bx ((w.alloc (Obj.cells #[(.slice Aa1 a.monos.length ca1)] 51)).alloc (Obj.cells #[(.slice Ab1 b.monos.length cb1)] 51)) (w.heap.size + 1) [(.slice Ab1 b.monos.length cb1)] := (by have := (Bx.new (w.alloc (Obj.cells #[(.slice Aa1 a.monos.length ca1)] 51)) #[(.slice Ab1 b.monos.length cb1)] 51); simpa using this)
  have hFb_0 : ∀ oo, (((w.alloc (Obj.cells #[(.slice Aa1 a.monos.length ca1)] 51)).alloc (Obj.cells #[(.slice Ab1 b.monos.length cb1)] 51))).frozen? ⟨w.heap.size + 1, oo, none⟩ = false := fun oo => by simp
  generalize ((w.alloc (Obj.cells #[(.slice Aa1 a.monos.length ca1)] 51)).alloc (Obj.cells #[(.slice Ab1 b.monos.length cb1)] 51)) = w0 at *
  have ya : w.heap.size < w0.heap.size := by omega
  have xa0 : w0.cell? ⟨w.heap.size, 0, none⟩ = some ((.slice Aa1 a.monos.length ca1)) := hBa_0 0 _ rfl
  have yb : w.heap.size + 1 < w0.heap.size := by omega
  have xb0 : w0.cell? ⟨w.heap.size + 1, 0, none⟩ = some ((.slice Ab1 b.monos.length cb1)) := hBb_0 0 _ rfl
  go_wp2_with fail
  clear xa0 ya
  clear xb0 yb
  refine (samePol_any a b _ _ _ (ha1.ext (Ext.trans he0 Ext.auto)) (hb1.ext (Ext.trans he0 Ext.auto))).mono ?_
  rintro e w1 ⟨rfl, hy⟩
  have hx1 : Ext w0 w1 := Ext.trans (Ext.auto) hy
  have hs1 := hx1.size
  have he1 : Ext w w1 := he0.trans hx1
  have hBa_1 : Bx w1 (w.heap.size) [(.slice Aa1 a.monos.length ca1)] := hx1.bx hBa_0 (by omega)
  have hFa_1 : ∀ oo, w1.frozen? ⟨w.heap.size, oo, none⟩ = false := fun oo => (hx1.frozen (by omega)).trans (hFa_0 oo)
  have hBb_1 : Bx w1 (w.heap.size + 1) [(.slice Ab1 b.monos.length cb1)] := hx1.bx hBb_0 (by omega)
  have hFb_1 : ∀ oo, w1.frozen? ⟨w.heap.size + 1, oo, none⟩ = false := fun oo => (hx1.frozen (by omega)).trans (hFb_0 oo)
  clear hBa_0 hFa_0 hBb_0 hFb_0
  clear hy
  go_wp2
  go_ret
  exact ⟨rfl, Ext.hold he1⟩

set_option maxHeartbeats 8000000 in
theorem equalPolys_any (a : List TrmPoly) (b : List TrmPoly) (va vb : Value) (w : World) (ha : Sl w (Old w) va a) (hb : Sl w (Old w) vb b)  :
    Calls Try.prog 136 #[va, vb, .func (.func 137) #[] #[]] w fun e w' => e = .returned (.bool (decide (a = b))) ∧ Ext w w' := by
  obtain ⟨Aa, ca, rfl, hla, hma⟩ := ha.form
  obtain ⟨Ab, cb, rfl, hlb, hmb⟩ := hb.form
  unfold maxLen at hma hmb
  by_cases hl : a.length = b.length
  rotate_left
  · have hn : ((a.length : Int) != (b.length : Int)) = true := by simp [hl]; try omega
    have HD := hide (show decide (a = b) = false by rw [decide_eq_false_iff_not]; intro h; exact hl (by rw [h]))
    clear hl
    go_enter Try.func136, Try.ntmps136
    go_wp2
    go_ret
    exact ⟨by rw [HD.out]; rfl, Ext.auto⟩
  have hn : ((a.length : Int) != (b.length : Int)) = false := by simp [hl]
  have HL := hide hl
  clear hl
  go_enter Try.func136, Try.ntmps136
  go_wp2
  go_loopw [7, 8, 9, 17] (fun _ _ _ i wr => ∃ k : Nat, k ≤ a.length ∧ i = .int .i64 k ∧ Ext w wr ∧ Hid (a.take k = b.take k)) (fun _ _ _ i _ => a.length - (intOf i).toNat)
  case atStart => exact ⟨0, by omega, rfl, Ext.refl _, rfl⟩
  case round =>
    obtain ⟨k, hk, rfl, he, HT⟩ := hrel
    obtain ⟨v1, hw1⟩ : ∃ v1 : World, v1 = wr := ⟨_, rfl⟩
    subst hw1
    by_cases hlt : k < a.length
    · have hlt' : k < b.length := by have := HL.out; omega
      obtain ⟨ba, offa, ea1, rfl, hba, hka, hea1, e0⟩ := at_TrmPoly (ha.ext he) hlt
      obtain ⟨bb, offb, eb1, rfl, hbb, hkb, heb1, g0⟩ := at_TrmPoly (hb.ext he) hlt'
      (try simp only [Nat.mul_one] at e0 g0)
      obtain ⟨Aa1, ca1, rfl, -, -⟩ := hea1.form
      obtain ⟨Ab1, cb1, rfl, -, -⟩ := heb1.form
      have hba1 : ba < v1.heap.size := hba
      have hbb1 : bb < v1.heap.size := hbb
      have z0 : (0 : Int) ≤ (k : Int) := by omega
      have z1 : (k : Int) < (a.length : Int) := by omega
      have z2 : (k : Int) < (b.length : Int) := by omega
      go_wp2_with fail
      refine (samePolC_any a[k] b[k] _ _ _ (hea1.ext Ext.auto) (heb1.ext Ext.auto)).mono ?_
      rintro e v2 ⟨rfl, hy⟩
      have hx1 : Ext v1 v2 := Ext.trans Ext.auto hy
      clear hy
      by_cases hq : a[k] = b[k]
      · have q1 : decide (a[k] = b[k]) = true := by simp [hq]
        have HN := hide (take_both3 hlt hlt' HT.out hq)
        clear hq
        go_wp2_with fail
        go_roundw
        case rel => exact ⟨k + 1, by omega, by go_num, he.trans hx1, HN.out⟩
        case measure => (simp [intOf]; try omega)
      · have q1 : decide (a[k] = b[k]) = false := by simp [hq]
        have HN := hide (ne_at3 hlt hlt' hq)
        clear hq
        go_wp2
        go_ret
        exact ⟨by rw [HN.out]; rfl, he.trans hx1⟩
    · obtain rfl : k = a.length := by omega
      have HN := hide (show decide (a = b) = true by rw [decide_eq_true_iff]; have := HT.out; rwa [List.take_length, HL.out, List.take_length] at this)
      go_wp2
      go_ret
      exact ⟨by rw [HN.out]; rfl, he⟩

set_option maxHeartbeats 2000000 in
theorem samePolys_any (a : List TrmPoly) (b : List TrmPoly) (va vb : Value) (w : World) (ha : Sl w (Old w) va a) (hb : Sl w (Old w) vb b)  :
    Calls Try.prog 76 #[va, vb] w fun e w' => e = .returned (.bool (decide (a = b))) ∧ Ext w w' := by
  obtain ⟨Aa, ca, rfl, hla, hma⟩ := ha.form
  obtain ⟨Ab, cb, rfl, hlb, hmb⟩ := hb.form
  go_enter Try.func76, Try.ntmps76
  go_wp2_with fail
  refine (equalPolys_any a b _ _ _ ha hb).mono ?_
  rintro e w1 ⟨rfl, hx⟩
  go_wp2
  go_ret
  exact ⟨rfl, hx⟩

set_option maxHeartbeats 16000000 in
theorem sameEvent_any (a : SymEvent) (b : SymEvent) (va1 va2 va3 vb1 vb2 vb3 : Value) (w : World) (ha1 : Sl w (Old w) va1 a.x.monos) (ha2 : Sl w (Old w) va2 a.y.monos) (ha3 : Sl w (Old w) va3 a.regs) (hb1 : Sl w (Old w) vb1 b.x.monos) (hb2 : Sl w (Old w) vb2 b.y.monos) (hb3 : Sl w (Old w) vb3 b.regs)  :
    Calls Try.prog 74 #[.agg #[.int .i64 a.kind, .int .i64 a.at_, va1, va2, va3], .agg #[.int .i64 b.kind, .int .i64 b.at_, vb1, vb2, vb3]] w fun e w' => e = .returned (.bool (decide (a = b))) ∧ Ext w w' := by
  obtain ⟨Aa1, ca1, rfl, hla1, hma1⟩ := ha1.form
  obtain ⟨Aa2, ca2, rfl, hla2, hma2⟩ := ha2.form
  obtain ⟨Aa3, ca3, rfl, hla3, hma3⟩ := ha3.form
  obtain ⟨Ab1, cb1, rfl, hlb1, hmb1⟩ := hb1.form
  obtain ⟨Ab2, cb2, rfl, hlb2, hmb2⟩ := hb2.form
  obtain ⟨Ab3, cb3, rfl, hlb3, hmb3⟩ := hb3.form
  go_enter Try.func74, Try.ntmps74
  go_upto_region 1 with fail
  have he0 : Ext w ((w.alloc (Obj.cells #[.int .i64 a.kind, .int .i64 a.at_, (.slice Aa1 a.x.monos.length ca1), (.slice Aa2 a.y.monos.length ca2), (.slice Aa3 a.regs.length ca3)] 114)).alloc (Obj.cells #[.int .i64 b.kind, .int .i64 b.at_, (.slice Ab1 b.x.monos.length cb1), (.slice Ab2 b.y.monos.length cb2), (.slice Ab3 b.regs.length cb3)] 114)) := (Ext.auto)
  have hs0 : w.heap.size + 2 ≤ (((w.alloc (Obj.cells #[.int .i64 a.kind, .int .i64 a.at_, (.slice Aa1 a.x.monos.length ca1), (.slice Aa2 a.y.monos.length ca2), (.slice Aa3 a.regs.length ca3)] 114)).alloc (Obj.cells #[.int .i64 b.kind, .int .i64 b.at_, (.slice Ab1 b.x.monos.length cb1), (.slice Ab2 b.y.monos.length cb2), (.slice Ab3 b.regs.length cb3)] 114))).heap.size := by simp
  have hq0 := hide (show (((w.alloc (Obj.cells #[.int .i64 a.kind, .int .i64 a.at_, (.slice Aa1 a.x.monos.length ca1), (.slice Aa2 a.y.monos.length ca2), (.slice Aa3 a.regs.length ca3)] 114)).alloc (Obj.cells #[.int .i64 b.kind, .int .i64 b.at_, (.slice Ab1 b.x.monos.length cb1), (.slice Ab2 b.y.monos.length cb2), (.slice Ab3 b.regs.length cb3)] 114))).heap.size = w.heap.size + 2 by simp)
  have hBa_0 : Bx ((w.alloc (Obj.cells #[.int .i64 a.kind, .int .i64 a.at_, (.slice Aa1 a.x.monos.length ca1), (.slice Aa2 a.y.monos.length ca2), (.slice Aa3 a.regs.length ca3)] 114)).alloc (Obj.cells #[.int .i64 b.kind, .int .i64 b.at_, (.slice Ab1 b.x.monos.length cb1), (.slice Ab2 b.y.monos.length cb2), (.slice Ab3 b.regs.length cb3)] 114)) (w.heap.size) [.int .i64 a.kind, .int .i64 a.at_, (.slice Aa1 a.x.monos.length ca1), (.slice Aa2 a.y.monos.length ca2), (.slice Aa3 a.regs.length ca3)] := (by have := (Bx.alloc (Bx.new w #[.int .i64 a.kind, .int .i64 a.at_, (.slice Aa1 a.x.monos.length ca1), (.slice Aa2 a.y.monos.length ca2), (.slice Aa3 a.regs.length ca3)] 114) (by simp) #[.int .i64 b.kind, .int .i64 b.at_, (.slice Ab1 b.x.monos.length cb1), (.slice Ab2 b.y.monos.length cb2), (.slice Ab3 b.regs.length cb3)] 114); simpa using this)
  have hFa_0 : ∀ oo, (((w.alloc (Obj.cells #[.int .i64 a.kind, .int .i64 a.at_, (.slice Aa1 a.x.monos.length ca1), (.slice Aa2 a.y.monos.length ca2), (.slice Aa3 a.regs.length ca3)] 114)).alloc (Obj.cells #[.int .i64 b.kind, .int .i64 b.at_, (.slice Ab1 b.x.monos.length cb1), (.slice Ab2 b.y.monos.length cb2), (.slice Ab3 b.regs.length cb3)] 114))).frozen? ⟨w.heap.size, oo, none⟩ = false := fun oo => by simp
  have hBb_0 : Bx ((w.alloc (Obj.cells #[.int .i64 a.kind, .int .i64 a.at_, (.slice Aa1 a.x.monos.length ca1), (.slice Aa2 a.y.monos.length ca2), (.slice Aa3 a.regs.length ca3)] 114)).alloc (Obj.cells #[.int .i64 b.kind, .int .i64 b.at_, (.slice Ab1 b.x.monos.length cb1), (.slice Ab2 b.y.monos.length cb2), (.slice Ab3 b.regs.length cb3)] 114)) (w.heap.size + 1) [.int .i64 b.kind, .int .i64 b.at_, (.slice Ab1 b.x.monos.length cb1), (.slice Ab2 b.y.monos.length cb2), (.slice Ab3 b.regs.length cb3)] := (by have := (Bx.new (w.alloc (Obj.cells #[.int .i64 a.kind, .int .i64 a.at_, (.slice Aa1 a.x.monos.length ca1), (.slice Aa2 a.y.monos.length ca2), (.slice Aa3 a.regs.length ca3)] 114)) #[.int .i64 b.kind, .int .i64 b.at_, (.slice Ab1 b.x.monos.length cb1), (.slice Ab2 b.y.monos.length cb2), (.slice Ab3 b.regs.length cb3)] 114); simpa using this)
  have hFb_0 : ∀ oo, (((w.alloc (Obj.cells #[.int .i64 a.kind, .int .i64 a.at_, (.slice Aa1 a.x.monos.length ca1), (.slice Aa2 a.y.monos.length ca2), (.slice Aa3 a.regs.length ca3)] 114)).alloc (Obj.cells #[.int .i64 b.kind, .int .i64 b.at_, (.slice Ab1 b.x.monos.length cb1), (.slice Ab2 b.y.monos.length cb2), (.slice Ab3 b.regs.length cb3)] 114))).frozen? ⟨w.heap.size + 1, oo, none⟩ = false := fun oo => by simp
  generalize ((w.alloc (Obj.cells #[.int .i64 a.kind, .int .i64 a.at_, (.slice Aa1 a.x.monos.length ca1), (.slice Aa2 a.y.monos.length ca2), (.slice Aa3 a.regs.length ca3)] 114)).alloc (Obj.cells #[.int .i64 b.kind, .int .i64 b.at_, (.slice Ab1 b.x.monos.length cb1), (.slice Ab2 b.y.monos.length cb2), (.slice Ab3 b.regs.length cb3)] 114)) = w0 at *
  by_cases h0 : a.kind = b.kind
  rotate_left
  · 
    have q0 : (a.kind == b.kind) = false := by simp [h0]
    have HF := hide (symEvent_ne (.inl h0))
    clear h0
    have ya : w.heap.size < w0.heap.size := by omega
    have xa0 := hBa_0 0 _ rfl
    have xa1 := hBa_0 1 _ rfl
    have xa2 := hBa_0 2 _ rfl
    have xa3 := hBa_0 3 _ rfl
    have xa4 := hBa_0 4 _ rfl
    have yb : w.heap.size + 1 < w0.heap.size := by omega
    have xb0 := hBb_0 0 _ rfl
    have xb1 := hBb_0 1 _ rfl
    have xb2 := hBb_0 2 _ rfl
    have xb3 := hBb_0 3 _ rfl
    have xb4 := hBb_0 4 _ rfl
    go_wp2
    go_ret
    exact ⟨by rw [HF.out]; rfl, Ext.hold he0⟩
  have q0 : (a.kind == b.kind) = true := by simp [h0]
  have H0 := hide h0
  clear h0
  by_cases h1 : a.at_ = b.at_
  rotate_left
  · 
    have q1 : (a.at_ == b.at_) = false := by simp [h1]
    have HF := hide (symEvent_ne (.inr (.inl h1)))
    clear h1
    have ya : w.heap.size < w0.heap.size := by omega
    have xa0 := hBa_0 0 _ rfl
    have xa1 := hBa_0 1 _ rfl
    have xa2 := hBa_0 2 _ rfl
    have xa3 := hBa_0 3 _ rfl
    have xa4 := hBa_0 4 _ rfl
    have yb : w.heap.size + 1 < w0.heap.size := by omega
    have xb0 := hBb_0 0 _ rfl
    have xb1 := hBb_0 1 _ rfl
    have xb2 := hBb_0 2 _ rfl
    have xb3 := hBb_0 3 _ rfl
    have xb4 := hBb_0 4 _ rfl
    go_wp2
    go_ret
    exact ⟨by rw [HF.out]; rfl, Ext.hold he0⟩
  have q1 : (a.at_ == b.at_) = true := by simp [h1]
  have H1 := hide h1
  clear h1
  have ya : w.heap.size < w0.heap.size := by omega
  have xa0 := hBa_0 0 _ rfl
  have xa1 := hBa_0 1 _ rfl
  have xa2 := hBa_0 2 _ rfl
  have xa3 := hBa_0 3 _ rfl
  have xa4 := hBa_0 4 _ rfl
  have yb : w.heap.size + 1 < w0.heap.size := by omega
  have xb0 := hBb_0 0 _ rfl
  have xb1 := hBb_0 1 _ rfl
  have xb2 := hBb_0 2 _ rfl
  have xb3 := hBb_0 3 _ rfl
  have xb4 := hBb_0 4 _ rfl
  go_wp2_with fail
  clear xa0 xa1 xa2 xa3 xa4 ya
  clear xb0 xb1 xb2 xb3 xb4 yb
  refine (samePol_any a.x b.x _ _ _ (ha1.ext (Ext.trans he0 Ext.auto)) (hb1.ext (Ext.trans he0 Ext.auto))).mono ?_
  rintro e w1 ⟨rfl, hy⟩
  have hx1 : Ext w0 w1 := Ext.trans (Ext.auto) hy
  have hs1 := hx1.size
  have he1 : Ext w w1 := he0.trans hx1
  have hBa_1 : Bx w1 (w.heap.size) [.int .i64 a.kind, .int .i64 a.at_, (.slice Aa1 a.x.monos.length ca1), (.slice Aa2 a.y.monos.length ca2), (.slice Aa3 a.regs.length ca3)] := hx1.bx hBa_0 (by omega)
  have hFa_1 : ∀ oo, w1.frozen? ⟨w.heap.size, oo, none⟩ = false := fun oo => (hx1.frozen (by omega)).trans (hFa_0 oo)
  have hBb_1 : Bx w1 (w.heap.size + 1) [.int .i64 b.kind, .int .i64 b.at_, (.slice Ab1 b.x.monos.length cb1), (.slice Ab2 b.y.monos.length cb2), (.slice Ab3 b.regs.length cb3)] := hx1.bx hBb_0 (by omega)
  have hFb_1 : ∀ oo, w1.frozen? ⟨w.heap.size + 1, oo, none⟩ = false := fun oo => (hx1.frozen (by omega)).trans (hFb_0 oo)
  clear hBa_0 hFa_0 hBb_0 hFb_0
  clear hy
  by_cases h2 : a.x = b.x
  rotate_left
  · 
    have q2 : decide (a.x = b.x) = false := by simp [h2]
    have HF := hide (symEvent_ne (.inr (.inr (.inl h2))))
    clear h2
    have ya : w.heap.size < w1.heap.size := by omega
    have xa0 := hBa_1 0 _ rfl
    have xa1 := hBa_1 1 _ rfl
    have xa2 := hBa_1 2 _ rfl
    have xa3 := hBa_1 3 _ rfl
    have xa4 := hBa_1 4 _ rfl
    have yb : w.heap.size + 1 < w1.heap.size := by omega
    have xb0 := hBb_1 0 _ rfl
    have xb1 := hBb_1 1 _ rfl
    have xb2 := hBb_1 2 _ rfl
    have xb3 := hBb_1 3 _ rfl
    have xb4 := hBb_1 4 _ rfl
    go_wp2
    go_ret
    exact ⟨by rw [HF.out]; rfl, Ext.hold he1⟩
  have q2 : decide (a.x = b.x) = true := by simp [h2]
  have H2 := hide h2
  clear h2
  have ya : w.heap.size < w1.heap.size := by omega
  have xa0 := hBa_1 0 _ rfl
  have xa1 := hBa_1 1 _ rfl
  have xa2 := hBa_1 2 _ rfl
  have xa3 := hBa_1 3 _ rfl
  have xa4 := hBa_1 4 _ rfl
  have yb : w.heap.size + 1 < w1.heap.size := by omega
  have xb0 := hBb_1 0 _ rfl
  have xb1 := hBb_1 1 _ rfl
  have xb2 := hBb_1 2 _ rfl
  have xb3 := hBb_1 3 _ rfl
  have xb4 := hBb_1 4 _ rfl
  go_wp2_with fail
  clear xa0 xa1 xa2 xa3 xa4 ya
  clear xb0 xb1 xb2 xb3 xb4 yb
  refine (samePol_any a.y b.y _ _ _ (ha2.ext (Ext.trans he1 Ext.auto)) (hb2.ext (Ext.trans he1 Ext.auto))).mono ?_
  rintro e w2 ⟨rfl, hy⟩
  have hx2 : Ext w1 w2 := Ext.trans (Ext.auto) hy
  have hs2 := hx2.size
  have he2 : Ext w w2 := he1.trans hx2
  have hBa_2 : Bx w2 (w.heap.size) [.int .i64 a.kind, .int .i64 a.at_, (.slice Aa1 a.x.monos.length ca1), (.slice Aa2 a.y.monos.length ca2), (.slice Aa3 a.regs.length ca3)] := hx2.bx hBa_1 (by omega)
  have hFa_2 : ∀ oo, w2.frozen? ⟨w.heap.size, oo, none⟩ = false := fun oo => (hx2.frozen (by omega)).trans (hFa_1 oo)
  have hBb_2 : Bx w2 (w.heap.size + 1) [.int .i64 b.kind, .int .i64 b.at_, (.slice Ab1 b.x.monos.length cb1), (.slice Ab2 b.y.monos.length cb2), (.slice Ab3 b.regs.length cb3)] := hx2.bx hBb_1 (by omega)
  have hFb_2 : ∀ oo, w2.frozen? ⟨w.heap.size + 1, oo, none⟩ = false := fun oo => (hx2.frozen (by omega)).trans (hFb_1 oo)
  clear hBa_1 hFa_1 hBb_1 hFb_1
  clear hy
  by_cases h3 : a.y = b.y
  rotate_left
  · 
    have q3 : decide (a.y = b.y) = false := by simp [h3]
    have HF := hide (symEvent_ne (.inr (.inr (.inr (.inl h3)))))
    clear h3
    have ya : w.heap.size < w2.heap.size := by omega
    have xa0 := hBa_2 0 _ rfl
    have xa1 := hBa_2 1 _ rfl
    have xa2 := hBa_2 2 _ rfl
    have xa3 := hBa_2 3 _ rfl
    have xa4 := hBa_2 4 _ rfl
    have yb : w.heap.size + 1 < w2.heap.size := by omega
    have xb0 := hBb_2 0 _ rfl
    have xb1 := hBb_2 1 _ rfl
    have xb2 := hBb_2 2 _ rfl
    have xb3 := hBb_2 3 _ rfl
    have xb4 := hBb_2 4 _ rfl
    go_wp2
    go_ret
    exact ⟨by rw [HF.out]; rfl, Ext.hold he2⟩
  have q3 : decide (a.y = b.y) = true := by simp [h3]
  have H3 := hide h3
  clear h3
  have ya : w.heap.size < w2.heap.size := by omega
  have xa0 := hBa_2 0 _ rfl
  have xa1 := hBa_2 1 _ rfl
  have xa2 := hBa_2 2 _ rfl
  have xa3 := hBa_2 3 _ rfl
  have xa4 := hBa_2 4 _ rfl
  have yb : w.heap.size + 1 < w2.heap.size := by omega
  have xb0 := hBb_2 0 _ rfl
  have xb1 := hBb_2 1 _ rfl
  have xb2 := hBb_2 2 _ rfl
  have xb3 := hBb_2 3 _ rfl
  have xb4 := hBb_2 4 _ rfl
  go_wp2_with fail
  clear xa0 xa1 xa2 xa3 xa4 ya
  clear xb0 xb1 xb2 xb3 xb4 yb
  refine (samePolys_any a.regs b.regs _ _ _ (ha3.ext (Ext.trans he2 Ext.auto)) (hb3.ext (Ext.trans he2 Ext.auto))).mono ?_
  rintro e w3 ⟨rfl, hy⟩
  have hx3 : Ext w2 w3 := Ext.trans (Ext.auto) hy
  have hs3 := hx3.size
  have he3 : Ext w w3 := he2.trans hx3
  have hBa_3 : Bx w3 (w.heap.size) [.int .i64 a.kind, .int .i64 a.at_, (.slice Aa1 a.x.monos.length ca1), (.slice Aa2 a.y.monos.length ca2), (.slice Aa3 a.regs.length ca3)] := hx3.bx hBa_2 (by omega)
  have hFa_3 : ∀ oo, w3.frozen? ⟨w.heap.size, oo, none⟩ = false := fun oo => (hx3.frozen (by omega)).trans (hFa_2 oo)
  have hBb_3 : Bx w3 (w.heap.size + 1) [.int .i64 b.kind, .int .i64 b.at_, (.slice Ab1 b.x.monos.length cb1), (.slice Ab2 b.y.monos.length cb2), (.slice Ab3 b.regs.length cb3)] := hx3.bx hBb_2 (by omega)
  have hFb_3 : ∀ oo, w3.frozen? ⟨w.heap.size + 1, oo, none⟩ = false := fun oo => (hx3.frozen (by omega)).trans (hFb_2 oo)
  clear hBa_2 hFa_2 hBb_2 hFb_2
  clear hy
  by_cases h4 : a.regs = b.regs
  rotate_left
  · 
    have q4 : decide (a.regs = b.regs) = false := by simp [h4]
    have HF := hide (symEvent_ne (.inr (.inr (.inr (.inr h4)))))
    clear h4
    have ya : w.heap.size < w3.heap.size := by omega
    have xa0 := hBa_3 0 _ rfl
    have xa1 := hBa_3 1 _ rfl
    have xa2 := hBa_3 2 _ rfl
    have xa3 := hBa_3 3 _ rfl
    have xa4 := hBa_3 4 _ rfl
    have yb : w.heap.size + 1 < w3.heap.size := by omega
    have xb0 := hBb_3 0 _ rfl
    have xb1 := hBb_3 1 _ rfl
    have xb2 := hBb_3 2 _ rfl
    have xb3 := hBb_3 3 _ rfl
    have xb4 := hBb_3 4 _ rfl
    go_wp2
    go_ret
    exact ⟨by rw [HF.out]; rfl, Ext.hold he3⟩
  have q4 : decide (a.regs = b.regs) = true := by simp [h4]
  have H4 := hide h4
  clear h4
  have HF := hide (symEvent_eq H0.out H1.out H2.out H3.out H4.out)
  have ya : w.heap.size < w3.heap.size := by omega
  have xa0 := hBa_3 0 _ rfl
  have xa1 := hBa_3 1 _ rfl
  have xa2 := hBa_3 2 _ rfl
  have xa3 := hBa_3 3 _ rfl
  have xa4 := hBa_3 4 _ rfl
  have yb : w.heap.size + 1 < w3.heap.size := by omega
  have xb0 := hBb_3 0 _ rfl
  have xb1 := hBb_3 1 _ rfl
  have xb2 := hBb_3 2 _ rfl
  have xb3 := hBb_3 3 _ rfl
  have xb4 := hBb_3 4 _ rfl
  go_wp2
  go_ret
  exact ⟨by rw [HF.out]; rfl, Ext.hold he3⟩

set_option maxHeartbeats 8000000 in
theorem equalEvents_any (a : List SymEvent) (b : List SymEvent) (va vb : Value) (w : World) (ha : Sl w (Old w) va a) (hb : Sl w (Old w) vb b)  :
    Calls Try.prog 73 #[va, vb, .func (.func 74) #[] #[]] w fun e w' => e = .returned (.bool (decide (a = b))) ∧ Ext w w' := by
  obtain ⟨Aa, ca, rfl, hla, hma⟩ := ha.form
  obtain ⟨Ab, cb, rfl, hlb, hmb⟩ := hb.form
  unfold maxLen at hma hmb
  by_cases hl : a.length = b.length
  rotate_left
  · have hn : ((a.length : Int) != (b.length : Int)) = true := by simp [hl]; try omega
    have HD := hide (show decide (a = b) = false by rw [decide_eq_false_iff_not]; intro h; exact hl (by rw [h]))
    clear hl
    go_enter Try.func73, Try.ntmps73
    go_wp2
    go_ret
    exact ⟨by rw [HD.out]; rfl, Ext.auto⟩
  have hn : ((a.length : Int) != (b.length : Int)) = false := by simp [hl]
  have HL := hide hl
  clear hl
  go_enter Try.func73, Try.ntmps73
  go_wp2
  go_loopw [7, 8, 9, 17] (fun _ _ _ i wr => ∃ k : Nat, k ≤ a.length ∧ i = .int .i64 k ∧ Ext w wr ∧ Hid (a.take k = b.take k)) (fun _ _ _ i _ => a.length - (intOf i).toNat)
  case atStart => exact ⟨0, by omega, rfl, Ext.refl _, rfl⟩
  case round =>
    obtain ⟨k, hk, rfl, he, HT⟩ := hrel
    obtain ⟨v1, hw1⟩ : ∃ v1 : World, v1 = wr := ⟨_, rfl⟩
    subst hw1
    by_cases hlt : k < a.length
    · have hlt' : k < b.length := by have := HL.out; omega
      obtain ⟨ba, offa, ea1, ea2, ea3, rfl, hba, hka, hea1, hea2, hea3, e0, e1, e2, e3, e4⟩ := at_SymEvent (ha.ext he) hlt
      obtain ⟨bb, offb, eb1, eb2, eb3, rfl, hbb, hkb, heb1, heb2, heb3, g0, g1, g2, g3, g4⟩ := at_SymEvent (hb.ext he) hlt'
      (try simp only [Nat.mul_one] at e0 e1 e2 e3 e4 g0 g1 g2 g3 g4)
      obtain ⟨Aa1, ca1, rfl, -, -⟩ := hea1.form
      obtain ⟨Aa2, ca2, rfl, -, -⟩ := hea2.form
      obtain ⟨Aa3, ca3, rfl, -, -⟩ := hea3.form
      obtain ⟨Ab1, cb1, rfl, -, -⟩ := heb1.form
      obtain ⟨Ab2, cb2, rfl, -, -⟩ := heb2.form
      obtain ⟨Ab3, cb3, rfl, -, -⟩ := heb3.form
      have hba1 : ba < v1.heap.size := hba
      have hbb1 : bb < v1.heap.size := hbb
      have z0 : (0 : Int) ≤ (k : Int) := by omega
      have z1 : (k : Int) < (a.length : Int) := by omega
      have z2 : (k : Int) < (b.length : Int) := by omega
      go_wp2_with fail
      refine (sameEvent_any a[k] b[k] _ _ _ _ _ _ _ (hea1.ext Ext.auto) (hea2.ext Ext.auto) (hea3.ext Ext.auto) (heb1.ext Ext.auto) (heb2.ext Ext.auto) (heb3.ext Ext.auto)).mono ?_
      rintro e v2 ⟨rfl, hy⟩
      have hx1 : Ext v1 v2 := Ext.trans Ext.auto hy
      clear hy
      by_cases hq : a[k] = b[k]
      · have q1 : decide (a[k] = b[k]) = true := by simp [hq]
        have HN := hide (take_both3 hlt hlt' HT.out hq)
        clear hq
        go_wp2_with fail
        go_roundw
        case rel => exact ⟨k + 1, by omega, by go_num, he.trans hx1, HN.out⟩
        case measure => (simp [intOf]; try omega)
      · have q1 : decide (a[k] = b[k]) = false := by simp [hq]
        have HN := hide (ne_at3 hlt hlt' hq)
        clear hq
        go_wp2
        go_ret
        exact ⟨by rw [HN.out]; rfl, he.trans hx1⟩
    · obtain rfl : k = a.length := by omega
      have HN := hide (show decide (a = b) = true by rw [decide_eq_true_iff]; have := HT.out; rwa [List.take_length, HL.out, List.take_length] at this)
      go_wp2
      go_ret
      exact ⟨by rw [HN.out]; rfl, he⟩

set_option maxHeartbeats 32000000 in
theorem implSymSame_any (a : SymSym) (b : SymSym) (va1 va2 va3 va4 vb1 vb2 vb3 vb4 : Value) (w : World) (ha1 : Sl w (Old w) va1 a.events) (ha2 : Sl w (Old w) va2 a.regs) (ha3 : Sl w (Old w) va3 a.x.monos) (ha4 : Sl w (Old w) va4 a.y.monos) (hb1 : Sl w (Old w) vb1 b.events) (hb2 : Sl w (Old w) vb2 b.regs) (hb3 : Sl w (Old w) vb3 b.x.monos) (hb4 : Sl w (Old w) vb4 b.y.monos)  :
    Calls Try.prog 21 #[.agg #[va1, va2, .int .i64 a.fin, va3, va4, .int .i64 a.k], .agg #[vb1, vb2, .int .i64 b.fin, vb3, vb4, .int .i64 b.k]] w fun e w' => e = .returned (.bool (decide (a = b))) ∧ Ext w w' := by
  obtain ⟨Aa1, ca1, rfl, hla1, hma1⟩ := ha1.form
  obtain ⟨Aa2, ca2, rfl, hla2, hma2⟩ := ha2.form
  obtain ⟨Aa3, ca3, rfl, hla3, hma3⟩ := ha3.form
  obtain ⟨Aa4, ca4, rfl, hla4, hma4⟩ := ha4.form
  obtain ⟨Ab1, cb1, rfl, hlb1, hmb1⟩ := hb1.form
  obtain ⟨Ab2, cb2, rfl, hlb2, hmb2⟩ := hb2.form
  obtain ⟨Ab3, cb3, rfl, hlb3, hmb3⟩ := hb3.form
  obtain ⟨Ab4, cb4, rfl, hlb4, hmb4⟩ := hb4.form
  go_enter Try.func21, Try.ntmps21
  go_upto_region 1 with fail
  have he0 : Ext w ((w.alloc (Obj.cells #[(.slice Aa1 a.events.length ca1), (.slice Aa2 a.regs.length ca2), .int .i64 a.fin, (.slice Aa3 a.x.monos.length ca3), (.slice Aa4 a.y.monos.length ca4), .int .i64 a.k] 53)).alloc (Obj.cells #[(.slice Ab1 b.events.length cb1), (.slice Ab2 b.regs.length cb2), .int .i64 b.fin, (.slice Ab3 b.x.monos.length cb3), (.slice Ab4 b.y.monos.length cb4), .int .i64 b.k] 53)) := (Ext.auto)
  have hs0 : w.heap.size + 2 ≤ (((w.alloc (Obj.cells #[(.slice Aa1 a.events.length ca1), (.slice Aa2 a.regs.length ca2), .int .i64 a.fin, (.slice Aa3 a.x.monos.length ca3), (.slice Aa4 a.y.monos.length ca4), .int .i64 a.k] 53)).alloc (Obj.cells #[(.slice Ab1 b.events.length cb1), (.slice Ab2 b.regs.length cb2), .int .i64 b.fin, (.slice Ab3 b.x.monos.length cb3), (.slice Ab4 b.y.monos.length cb4), .int .i64 b.k] 53))).heap.size := by simp
  have hq0 := hide (show (((w.alloc (Obj.cells #[(.slice Aa1 a.events.length ca1), (.slice Aa2 a.regs.length ca2), .int .i64 a.fin, (.slice Aa3 a.x.monos.length ca3), (.slice Aa4 a.y.monos.length ca4), .int .i64 a.k] 53)).alloc (Obj.cells #[(.slice Ab1 b.events.length cb1), (.slice Ab2 b.regs.length cb2), .int .i64 b.fin, (.slice Ab3 b.x.monos.length cb3), (.slice Ab4 b.y.monos.length cb4), .int .i64 b.k] 53))).heap.size = w.heap.size + 2 by simp)
  have hBa_0 : Bx ((w.alloc (Obj.cells #[(.slice Aa1 a.events.length ca1), (.slice Aa2 a.regs.length ca2), .int .i64 a.fin, (.slice Aa3 a.x.monos.length ca3), (.slice Aa4 a.y.monos.length ca4), .int .i64 a.k] 53)).alloc (Obj.cells #[(.slice Ab1 b.events.length cb1), (.slice Ab2 b.regs.length cb2), .int .i64 b.fin, (.slice Ab3 b.x.monos.length cb3), (.slice Ab4 b.y.monos.length cb4), .int .i64 b.k] 53)) (w.heap.size) [(.slice Aa1 a.events.length ca1), (.slice Aa2 a.regs.length ca2), .int .i64 a.fin, (.slice Aa3 a.x.monos.length ca3), (.slice Aa4 a.y.monos.length ca4), .int .i64 a.k] := (by have := (Bx.alloc (Bx.new w #[(.slice Aa1 a.events.length ca1), (.slice Aa2 a.regs.length ca2), .int .i64 a.fin, (.slice Aa3 a.x.monos.length ca3), (.slice Aa4 a.y.monos.length ca4), .int .i64 a.k] 53) (by simp) #[(.slice Ab1 b.events.length cb1), (.slice Ab2 b.regs.length cb2), .int .i64 b.fin, (.slice Ab3 b.x.monos.length cb3), (.slice Ab4 b.y.monos.length cb4), .int .i64 b.k] 53); simpa using this)
  have hFa_0 : ∀ oo, (((w.alloc (Obj.cells #[(.slice Aa1 a.events.length ca1), (.slice Aa2 a.regs.length ca2), .int .i64 a.fin, (.slice Aa3 a.x.monos.length ca3), (.slice Aa4 a.y.monos.length ca4), .int .i64 a.k] 53)).alloc (Obj.cells #[(.slice Ab1 b.events.length cb1), (.slice Ab2 b.regs.length cb2), .int .i64 b.fin, (.slice Ab3 b.x.monos.length cb3), (.slice Ab4 b.y.monos.length cb4), .int .i64 b.k] 53))).frozen? ⟨w.heap.size, oo, none⟩ = false := fun oo => by simp
  have hBb_0 : Bx ((w.alloc (Obj.cells #[(.slice Aa1 a.events.length ca1), (.slice Aa2 a.regs.length ca2), .int .i64 a.fin, (.slice Aa3 a.x.monos.length ca3), (.slice Aa4 a.y.monos.length ca4), .int .i64 a.k] 53)).alloc (Obj.cells #[(.slice Ab1 b.events.length cb1), (.slice Ab2 b.regs.length cb2), .int .i64 b.fin, (.slice Ab3 b.x.monos.length cb3), (.slice Ab4 b.y.monos.length cb4), .int .i64 b.k] 53)) (w.heap.size + 1) [(.slice Ab1 b.events.length cb1), (.slice Ab2 b.regs.length cb2), .int .i64 b.fin, (.slice Ab3 b.x.monos.length cb3), (.slice Ab4 b.y.monos.length cb4), .int .i64 b.k] := (by have := (Bx.new (w.alloc (Obj.cells #[(.slice Aa1 a.events.length ca1), (.slice Aa2 a.regs.length ca2), .int .i64 a.fin, (.slice Aa3 a.x.monos.length ca3), (.slice Aa4 a.y.monos.length ca4), .int .i64 a.k] 53)) #[(.slice Ab1 b.events.length cb1), (.slice Ab2 b.regs.length cb2), .int .i64 b.fin, (.slice Ab3 b.x.monos.length cb3), (.slice Ab4 b.y.monos.length cb4), .int .i64 b.k] 53); simpa using this)
  have hFb_0 : ∀ oo, (((w.alloc (Obj.cells #[(.slice Aa1 a.events.length ca1), (.slice Aa2 a.regs.length ca2), .int .i64 a.fin, (.slice Aa3 a.x.monos.length ca3), (.slice Aa4 a.y.monos.length ca4), .int .i64 a.k] 53)).alloc (Obj.cells #[(.slice Ab1 b.events.length cb1), (.slice Ab2 b.regs.length cb2), .int .i64 b.fin, (.slice Ab3 b.x.monos.length cb3), (.slice Ab4 b.y.monos.length cb4), .int .i64 b.k] 53))).frozen? ⟨w.heap.size + 1, oo, none⟩ = false := fun oo => by simp
  generalize ((w.alloc (Obj.cells #[(.slice Aa1 a.events.length ca1), (.slice Aa2 a.regs.length ca2), .int .i64 a.fin, (.slice Aa3 a.x.monos.length ca3), (.slice Aa4 a.y.monos.length ca4), .int .i64 a.k] 53)).alloc (Obj.cells #[(.slice Ab1 b.events.length cb1), (.slice Ab2 b.regs.length cb2), .int .i64 b.fin, (.slice Ab3 b.x.monos.length cb3), (.slice Ab4 b.y.monos.length cb4), .int .i64 b.k] 53)) = w0 at *
  have ya : w.heap.size < w0.heap.size := by omega
  have xa0 := hBa_0 0 _ rfl
  have xa1 := hBa_0 1 _ rfl
  have xa2 := hBa_0 2 _ rfl
  have xa3 := hBa_0 3 _ rfl
  have xa4 := hBa_0 4 _ rfl
  have xa5 := hBa_0 5 _ rfl
  have yb : w.heap.size + 1 < w0.heap.size := by omega
  have xb0 := hBb_0 0 _ rfl
  have xb1 := hBb_0 1 _ rfl
  have xb2 := hBb_0 2 _ rfl
  have xb3 := hBb_0 3 _ rfl
  have xb4 := hBb_0 4 _ rfl
  have xb5 := hBb_0 5 _ rfl
  go_wp2_with fail
  clear xa0 xa1 xa2 xa3 xa4 xa5 ya
  clear xb0 xb1 xb2 xb3 xb4 xb5 yb
  refine (equalEvents_any a.events b.events _ _ _ (ha1.ext (Ext.trans he0 Ext.auto)) (hb1.ext (Ext.trans he0 Ext.auto))).mono ?_
  rintro e w1 ⟨rfl, hy⟩
  have hx1 : Ext w0 w1 := Ext.trans (Ext.auto) hy
  have hs1 := hx1.size
  have he1 : Ext w w1 := he0.trans hx1
  have hBa_1 : Bx w1 (w.heap.size) [(.slice Aa1 a.events.length ca1), (.slice Aa2 a.regs.length ca2), .int .i64 a.fin, (.slice Aa3 a.x.monos.length ca3), (.slice Aa4 a.y.monos.length ca4), .int .i64 a.k] := hx1.bx hBa_0 (by omega)
  have hFa_1 : ∀ oo, w1.frozen? ⟨w.heap.size, oo, none⟩ = false := fun oo => (hx1.frozen (by omega)).trans (hFa_0 oo)
  have hBb_1 : Bx w1 (w.heap.size + 1) [(.slice Ab1 b.events.length cb1), (.slice Ab2 b.regs.length cb2), .int .i64 b.fin, (.slice Ab3 b.x.monos.length cb3), (.slice Ab4 b.y.monos.length cb4), .int .i64 b.k] := hx1.bx hBb_0 (by omega)
  have hFb_1 : ∀ oo, w1.frozen? ⟨w.heap.size + 1, oo, none⟩ = false := fun oo => (hx1.frozen (by omega)).trans (hFb_0 oo)
  clear hBa_0 hFa_0 hBb_0 hFb_0
  clear hy
  by_cases h0 : a.events = b.events
  rotate_left
  · 
    have q0 : decide (a.events = b.events) = false := by simp [h0]
    have HF := hide (symSym_ne (.inl h0))
    clear h0
    have ya : w.heap.size < w1.heap.size := by omega
    have xa0 := hBa_1 0 _ rfl
    have xa1 := hBa_1 1 _ rfl
    have xa2 := hBa_1 2 _ rfl
    have xa3 := hBa_1 3 _ rfl
    have xa4 := hBa_1 4 _ rfl
    have xa5 := hBa_1 5 _ rfl
    have yb : w.heap.size + 1 < w1.heap.size := by omega
    have xb0 := hBb_1 0 _ rfl
    have xb1 := hBb_1 1 _ rfl
    have xb2 := hBb_1 2 _ rfl
    have xb3 := hBb_1 3 _ rfl
    have xb4 := hBb_1 4 _ rfl
    have xb5 := hBb_1 5 _ rfl
    go_wp2
    go_ret
    exact ⟨by rw [HF.out]; rfl, Ext.hold he1⟩
  have q0 : decide (a.events = b.events) = true := by simp [h0]
  have H0 := hide h0
  clear h0
  have ya : w.heap.size < w1.heap.size := by omega
  have xa0 := hBa_1 0 _ rfl
  have xa1 := hBa_1 1 _ rfl
  have xa2 := hBa_1 2 _ rfl
  have xa3 := hBa_1 3 _ rfl
  have xa4 := hBa_1 4 _ rfl
  have xa5 := hBa_1 5 _ rfl
  have yb : w.heap.size + 1 < w1.heap.size := by omega
  have xb0 := hBb_1 0 _ rfl
  have xb1 := hBb_1 1 _ rfl
  have xb2 := hBb_1 2 _ rfl
  have xb3 := hBb_1 3 _ rfl
  have xb4 := hBb_1 4 _ rfl
  have xb5 := hBb_1 5 _ rfl
  go_wp2_with fail
  clear xa0 xa1 xa2 xa3 xa4 xa5 ya
  clear xb0 xb1 xb2 xb3 xb4 xb5 yb
  refine (samePolys_any a.regs b.regs _ _ _ (ha2.ext (Ext.trans he1 Ext.auto)) (hb2.ext (Ext.trans he1 Ext.auto))).mono ?_
  rintro e w2 ⟨rfl, hy⟩
  have hx2 : Ext w1 w2 := Ext.trans (Ext.auto) hy
  have hs2 := hx2.size
  have he2 : Ext w w2 := he1.trans hx2
  have hBa_2 : Bx w2 (w.heap.size) [(.slice Aa1 a.events.length ca1), (.slice Aa2 a.regs.length ca2), .int .i64 a.fin, (.slice Aa3 a.x.monos.length ca3), (.slice Aa4 a.y.monos.length ca4), .int .i64 a.k] := hx2.bx hBa_1 (by omega)
  have hFa_2 : ∀ oo, w2.frozen? ⟨w.heap.size, oo, none⟩ = false := fun oo => (hx2.frozen (by omega)).trans (hFa_1 oo)
  have hBb_2 : Bx w2 (w.heap.size + 1) [(.slice Ab1 b.events.length cb1), (.slice Ab2 b.regs.length cb2), .int .i64 b.fin, (.slice Ab3 b.x.monos.length cb3), (.slice Ab4 b.y.monos.length cb4), .int .i64 b.k] := hx2.bx hBb_1 (by omega)
  have hFb_2 : ∀ oo, w2.frozen? ⟨w.heap.size + 1, oo, none⟩ = false := fun oo => (hx2.frozen (by omega)).trans (hFb_1 oo)
  clear hBa_1 hFa_1 hBb_1 hFb_1
  clear hy
  by_cases h1 : a.regs = b.regs
  rotate_left
  · 
    have q1 : decide (a.regs = b.regs) = false := by simp [h1]
    have HF := hide (symSym_ne (.inr (.inl h1)))
    clear h1
    have ya : w.heap.size < w2.heap.size := by omega
    have xa0 := hBa_2 0 _ rfl
    have xa1 := hBa_2 1 _ rfl
    have xa2 := hBa_2 2 _ rfl
    have xa3 := hBa_2 3 _ rfl
    have xa4 := hBa_2 4 _ rfl
    have xa5 := hBa_2 5 _ rfl
    have yb : w.heap.size + 1 < w2.heap.size := by omega
    have xb0 := hBb_2 0 _ rfl
    have xb1 := hBb_2 1 _ rfl
    have xb2 := hBb_2 2 _ rfl
    have xb3 := hBb_2 3 _ rfl
    have xb4 := hBb_2 4 _ rfl
    have xb5 := hBb_2 5 _ rfl
    go_wp2
    go_ret
    exact ⟨by rw [HF.out]; rfl, Ext.hold he2⟩
  have q1 : decide (a.regs = b.regs) = true := by simp [h1]
  have H1 := hide h1
  clear h1
  by_cases h2 : a.fin = b.fin
  rotate_left
  · 
    have q2 : (a.fin == b.fin) = false := by simp [h2]
    have HF := hide (symSym_ne (.inr (.inr (.inl h2))))
    clear h2
    have ya : w.heap.size < w2.heap.size := by omega
    have xa0 := hBa_2 0 _ rfl
    have xa1 := hBa_2 1 _ rfl
    have xa2 := hBa_2 2 _ rfl
    have xa3 := hBa_2 3 _ rfl
    have xa4 := hBa_2 4 _ rfl
    have xa5 := hBa_2 5 _ rfl
    have yb : w.heap.size + 1 < w2.heap.size := by omega
    have xb0 := hBb_2 0 _ rfl
    have xb1 := hBb_2 1 _ rfl
    have xb2 := hBb_2 2 _ rfl
    have xb3 := hBb_2 3 _ rfl
    have xb4 := hBb_2 4 _ rfl
    have xb5 := hBb_2 5 _ rfl
    go_wp2
    go_ret
    exact ⟨by rw [HF.out]; rfl, Ext.hold he2⟩
  have q2 : (a.fin == b.fin) = true := by simp [h2]
  have H2 := hide h2
  clear h2
  have ya : w.heap.size < w2.heap.size := by omega
  have xa0 := hBa_2 0 _ rfl
  have xa1 := hBa_2 1 _ rfl
  have xa2 := hBa_2 2 _ rfl
  have xa3 := hBa_2 3 _ rfl
  have xa4 := hBa_2 4 _ rfl
  have xa5 := hBa_2 5 _ rfl
  have yb : w.heap.size + 1 < w2.heap.size := by omega
  have xb0 := hBb_2 0 _ rfl
  have xb1 := hBb_2 1 _ rfl
  have xb2 := hBb_2 2 _ rfl
  have xb3 := hBb_2 3 _ rfl
  have xb4 := hBb_2 4 _ rfl
  have xb5 := hBb_2 5 _ rfl
  go_wp2_with fail
  clear xa0 xa1 xa2 xa3 xa4 xa5 ya
  clear xb0 xb1 xb2 xb3 xb4 xb5 yb
  refine (samePol_any a.x b.x _ _ _ (ha3.ext (Ext.trans he2 Ext.auto)) (hb3.ext (Ext.trans he2 Ext.auto))).mono ?_
  rintro e w3 ⟨rfl, hy⟩
  have hx3 : Ext w2 w3 := Ext.trans (Ext.auto) hy
  have hs3 := hx3.size
  have he3 : Ext w w3 := he2.trans hx3
  have hBa_3 : Bx w3 (w.heap.size) [(.slice Aa1 a.events.length ca1), (.slice Aa2 a.regs.length ca2), .int .i64 a.fin, (.slice Aa3 a.x.monos.length ca3), (.slice Aa4 a.y.monos.length ca4), .int .i64 a.k] := hx3.bx hBa_2 (by omega)
  have hFa_3 : ∀ oo, w3.frozen? ⟨w.heap.size, oo, none⟩ = false := fun oo => (hx3.frozen (by omega)).trans (hFa_2 oo)
  have hBb_3 : Bx w3 (w.heap.size + 1) [(.slice Ab1 b.events.length cb1), (.slice Ab2 b.regs.length cb2), .int .i64 b.fin, (.slice Ab3 b.x.monos.length cb3), (.slice Ab4 b.y.monos.length cb4), .int .i64 b.k] := hx3.bx hBb_2 (by omega)
  have hFb_3 : ∀ oo, w3.frozen? ⟨w.heap.size + 1, oo, none⟩ = false := fun oo => (hx3.frozen (by omega)).trans (hFb_2 oo)
  clear hBa_2 hFa_2 hBb_2 hFb_2
  clear hy
  by_cases h3 : a.x = b.x
  rotate_left
  · 
    have q3 : decide (a.x = b.x) = false := by simp [h3]
    have HF := hide (symSym_ne (.inr (.inr (.inr (.inr (.inl h3))))))
    clear h3
    have ya : w.heap.size < w3.heap.size := by omega
    have xa0 := hBa_3 0 _ rfl
    have xa1 := hBa_3 1 _ rfl
    have xa2 := hBa_3 2 _ rfl
    have xa3 := hBa_3 3 _ rfl
    have xa4 := hBa_3 4 _ rfl
    have xa5 := hBa_3 5 _ rfl
    have yb : w.heap.size + 1 < w3.heap.size := by omega
    have xb0 := hBb_3 0 _ rfl
    have xb1 := hBb_3 1 _ rfl
    have xb2 := hBb_3 2 _ rfl
    have xb3 := hBb_3 3 _ rfl
    have xb4 := hBb_3 4 _ rfl
    have xb5 := hBb_3 5 _ rfl
    go_wp2
    go_ret
    exact ⟨by rw [HF.out]; rfl, Ext.hold he3⟩
  have q3 : decide (a.x = b.x) = true := by simp [h3]
  have H3 := hide h3
  clear h3
  have ya : w.heap.size < w3.heap.size := by omega
  have xa0 := hBa_3 0 _ rfl
  have xa1 := hBa_3 1 _ rfl
  have xa2 := hBa_3 2 _ rfl
  have xa3 := hBa_3 3 _ rfl
  have xa4 := hBa_3 4 _ rfl
  have xa5 := hBa_3 5 _ rfl
  have yb : w.heap.size + 1 < w3.heap.size := by omega
  have xb0 := hBb_3 0 _ rfl
  have xb1 := hBb_3 1 _ rfl
  have xb2 := hBb_3 2 _ rfl
  have xb3 := hBb_3 3 _ rfl
  have xb4 := hBb_3 4 _ rfl
  have xb5 := hBb_3 5 _ rfl
  go_wp2_with fail
  clear xa0 xa1 xa2 xa3 xa4 xa5 ya
  clear xb0 xb1 xb2 xb3 xb4 xb5 yb
  refine (samePol_any a.y b.y _ _ _ (ha4.ext (Ext.trans he3 Ext.auto)) (hb4.ext (Ext.trans he3 Ext.auto))).mono ?_
  rintro e w4 ⟨rfl, hy⟩
  have hx4 : Ext w3 w4 := Ext.trans (Ext.auto) hy
  have hs4 := hx4.size
  have he4 : Ext w w4 := he3.trans hx4
  have hBa_4 : Bx w4 (w.heap.size) [(.slice Aa1 a.events.length ca1), (.slice Aa2 a.regs.length ca2), .int .i64 a.fin, (.slice Aa3 a.x.monos.length ca3), (.slice Aa4 a.y.monos.length ca4), .int .i64 a.k] := hx4.bx hBa_3 (by omega)
  have hFa_4 : ∀ oo, w4.frozen? ⟨w.heap.size, oo, none⟩ = false := fun oo => (hx4.frozen (by omega)).trans (hFa_3 oo)
  have hBb_4 : Bx w4 (w.heap.size + 1) [(.slice Ab1 b.events.length cb1), (.slice Ab2 b.regs.length cb2), .int .i64 b.fin, (.slice Ab3 b.x.monos.length cb3), (.slice Ab4 b.y.monos.length cb4), .int .i64 b.k] := hx4.bx hBb_3 (by omega)
  have hFb_4 : ∀ oo, w4.frozen? ⟨w.heap.size + 1, oo, none⟩ = false := fun oo => (hx4.frozen (by omega)).trans (hFb_3 oo)
  clear hBa_3 hFa_3 hBb_3 hFb_3
  clear hy
  by_cases h4 : a.y = b.y
  rotate_left
  · 
    have q4 : decide (a.y = b.y) = false := by simp [h4]
    have HF := hide (symSym_ne (.inr (.inr (.inr (.inr (.inr h4))))))
    clear h4
    have ya : w.heap.size < w4.heap.size := by omega
    have xa0 := hBa_4 0 _ rfl
    have xa1 := hBa_4 1 _ rfl
    have xa2 := hBa_4 2 _ rfl
    have xa3 := hBa_4 3 _ rfl
    have xa4 := hBa_4 4 _ rfl
    have xa5 := hBa_4 5 _ rfl
    have yb : w.heap.size + 1 < w4.heap.size := by omega
    have xb0 := hBb_4 0 _ rfl
    have xb1 := hBb_4 1 _ rfl
    have xb2 := hBb_4 2 _ rfl
    have xb3 := hBb_4 3 _ rfl
    have xb4 := hBb_4 4 _ rfl
    have xb5 := hBb_4 5 _ rfl
    go_wp2
    go_ret
    exact ⟨by rw [HF.out]; rfl, Ext.hold he4⟩
  have q4 : decide (a.y = b.y) = true := by simp [h4]
  have H4 := hide h4
  clear h4
  by_cases h5 : a.k = b.k
  rotate_left
  · 
    have q5 : (a.k == b.k) = false := by simp [h5]
    have HF := hide (symSym_ne (.inr (.inr (.inr (.inl h5)))))
    clear h5
    have ya : w.heap.size < w4.heap.size := by omega
    have xa0 := hBa_4 0 _ rfl
    have xa1 := hBa_4 1 _ rfl
    have xa2 := hBa_4 2 _ rfl
    have xa3 := hBa_4 3 _ rfl
    have xa4 := hBa_4 4 _ rfl
    have xa5 := hBa_4 5 _ rfl
    have yb : w.heap.size + 1 < w4.heap.size := by omega
    have xb0 := hBb_4 0 _ rfl
    have xb1 := hBb_4 1 _ rfl
    have xb2 := hBb_4 2 _ rfl
    have xb3 := hBb_4 3 _ rfl
    have xb4 := hBb_4 4 _ rfl
    have xb5 := hBb_4 5 _ rfl
    go_wp2
    go_ret
    exact ⟨by rw [HF.out]; rfl, Ext.hold he4⟩
  have q5 : (a.k == b.k) = true := by simp [h5]
  have H5 := hide h5
  clear h5
  have HF := hide (symSym_eq H0.out H1.out H2.out H5.out H3.out H4.out)
  have ya : w.heap.size < w4.heap.size := by omega
  have xa0 := hBa_4 0 _ rfl
  have xa1 := hBa_4 1 _ rfl
  have xa2 := hBa_4 2 _ rfl
  have xa3 := hBa_4 3 _ rfl
  have xa4 := hBa_4 4 _ rfl
  have xa5 := hBa_4 5 _ rfl
  have yb : w.heap.size + 1 < w4.heap.size := by omega
  have xb0 := hBb_4 0 _ rfl
  have xb1 := hBb_4 1 _ rfl
  have xb2 := hBb_4 2 _ rfl
  have xb3 := hBb_4 3 _ rfl
  have xb4 := hBb_4 4 _ rfl
  have xb5 := hBb_4 5 _ rfl
  go_wp2
  go_ret
  exact ⟨by rw [HF.out]; rfl, Ext.hold he4⟩

end Go.Proofs.Ytpneijbjheeobaa
