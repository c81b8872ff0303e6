/-
  TabI
-/
import Derived.Test.YtmbclopkopfngaaQRead
import Derived.Test.YtmbclopkopfngaaQPolI
import Derived.Deep.DeepCutAuto
namespace Go.Proofs.Ytmbclopkopfngaa
open Go.RowKit

set_option linter.unusedVariables false
set_option linter.unusedSimpArgs false
set_option maxRecDepth 100000

set_option maxHeartbeats 32000000 in
theorem implAtom_any (a : TabAtom) (n : Int) (va1 va2 : Value) (w : World) (ha1 : Sl w (Old w) va1 a.x.monos) (ha2 : Sl w (Old w) va2 a.y.monos) (hbx : a.x.monos.length ≤ 4194304) (hby : a.y.monos.length ≤ 4194304) :
    Calls Try.prog 33 #[.agg #[.int .i64 a.kind, .int .i64 a.k, va1, va2], .int .i64 n] w fun e w' => e = .returned (.bool (atomOkB a n)) ∧ Ext w w' := by
  obtain ⟨Aa1, ca1, rfl, hla1, hma1⟩ := ha1.form
  obtain ⟨Aa2, ca2, rfl, hla2, hma2⟩ := ha2.form
  unfold maxLen at hma1 hma2
  by_cases e1 : a.kind = 1
  · have e := e1
    have HV0 := hide (show atomOkB a n = (inB a.k 0 3 && bareB a) by unfold atomOkB; rw [if_pos (by omega)])
    have q1 : (a.kind == 1) = true := by simp; omega
    have q2 : (a.kind == 2) = false := by simp; omega
    have q3 : (a.kind == 3) = false := by simp; omega
    have q4 : (a.kind == 4) = false := by simp; omega
    clear e e1
    have hb : bareB a = !decide ((0 : Int) < (a.x.monos.length : Int) + (a.y.monos.length : Int)) := by unfold bareB; rw [Bool.eq_iff_iff, Bool.and_eq_true, decide_eq_true_eq, decide_eq_true_eq, Bool.not_eq_true', decide_eq_false_iff_not]; omega
    have HB := hide hb
    clear hb
    have zw : IntKind.i64.wrap ((a.x.monos.length : Int) + (a.y.monos.length : Int)) = (a.x.monos.length : Int) + (a.y.monos.length : Int) := by rw [IntKind.wrap_i64]; omega
    cases qs : decide ((0 : Int) < (a.x.monos.length : Int) + (a.y.monos.length : Int)) <;> cases qi : inB a.k 0 3
    · 
      have HV := hide (show atomOkB a n = false by rw [HV0.out, HB.out, qs, qi]; rfl)
      go_enter Try.func33, Try.ntmps33
      go_upto_region 1 with fail
      have he0 : Ext w (w.alloc (Obj.cells #[.int .i64 a.kind, .int .i64 a.k, (.slice Aa1 a.x.monos.length ca1), (.slice Aa2 a.y.monos.length ca2)] 30)) := (Ext.auto)
      have hs0 : w.heap.size + 1 ≤ ((w.alloc (Obj.cells #[.int .i64 a.kind, .int .i64 a.k, (.slice Aa1 a.x.monos.length ca1), (.slice Aa2 a.y.monos.length ca2)] 30))).heap.size := by simp
      have hq0 := hide (show ((w.alloc (Obj.cells #[.int .i64 a.kind, .int .i64 a.k, (.slice Aa1 a.x.monos.length ca1), (.slice Aa2 a.y.monos.length ca2)] 30))).heap.size = w.heap.size + 1 by simp)
      have hBa_0 : Bx (w.alloc (Obj.cells #[.int .i64 a.kind, .int .i64 a.k, (.slice Aa1 a.x.monos.length ca1), (.slice Aa2 a.y.monos.length ca2)] 30)) (w.heap.size) [.int .i64 a.kind, .int .i64 a.k, (.slice Aa1 a.x.monos.length ca1), (.slice Aa2 a.y.monos.length ca2)] := (by have := (Bx.new w #[.int .i64 a.kind, .int .i64 a.k, (.slice Aa1 a.x.monos.length ca1), (.slice Aa2 a.y.monos.length ca2)] 30); simpa using this)
      have hFa_0 : ∀ oo, ((w.alloc (Obj.cells #[.int .i64 a.kind, .int .i64 a.k, (.slice Aa1 a.x.monos.length ca1), (.slice Aa2 a.y.monos.length ca2)] 30))).frozen? ⟨w.heap.size, oo, none⟩ = false := fun oo => by simp
      generalize (w.alloc (Obj.cells #[.int .i64 a.kind, .int .i64 a.k, (.slice Aa1 a.x.monos.length ca1), (.slice Aa2 a.y.monos.length ca2)] 30)) = w0 at *
      have ya : w.heap.size < w0.heap.size := by omega
      have xa0 := hBa_0 0 _ rfl
      have xa1 := hBa_0 1 _ rfl
      have xa2 := hBa_0 2 _ rfl
      have xa3 := hBa_0 3 _ rfl
      go_wp2_with (first | (go_at_call 62; refine (isReg_any _ _).mono ?_; rintro e w' ⟨rfl, rfl⟩) | (go_at_call 59; refine (in_any _ _ _ _).mono ?_; rintro e w' ⟨rfl, rfl⟩))
      go_ret
      exact ⟨by rw [HV.out]; rfl, Ext.hold he0⟩
    · 
      have HV := hide (show atomOkB a n = true by rw [HV0.out, HB.out, qs, qi]; rfl)
      go_enter Try.func33, Try.ntmps33
      go_upto_region 1 with fail
      have he0 : Ext w (w.alloc (Obj.cells #[.int .i64 a.kind, .int .i64 a.k, (.slice Aa1 a.x.monos.length ca1), (.slice Aa2 a.y.monos.length ca2)] 30)) := (Ext.auto)
      have hs0 : w.heap.size + 1 ≤ ((w.alloc (Obj.cells #[.int .i64 a.kind, .int .i64 a.k, (.slice Aa1 a.x.monos.length ca1), (.slice Aa2 a.y.monos.length ca2)] 30))).heap.size := by simp
      have hq0 := hide (show ((w.alloc (Obj.cells #[.int .i64 a.kind, .int .i64 a.k, (.slice Aa1 a.x.monos.length ca1), (.slice Aa2 a.y.monos.length ca2)] 30))).heap.size = w.heap.size + 1 by simp)
      have hBa_0 : Bx (w.alloc (Obj.cells #[.int .i64 a.kind, .int .i64 a.k, (.slice Aa1 a.x.monos.length ca1), (.slice Aa2 a.y.monos.length ca2)] 30)) (w.heap.size) [.int .i64 a.kind, .int .i64 a.k, (.slice Aa1 a.x.monos.length ca1), (.slice Aa2 a.y.monos.length ca2)] := (by have := (Bx.new w #[.int .i64 a.kind, .int .i64 a.k, (.slice Aa1 a.x.monos.length ca1), (.slice Aa2 a.y.monos.length ca2)] 30); simpa using this)
      have hFa_0 : ∀ oo, ((w.alloc (Obj.cells #[.int .i64 a.kind, .int .i64 a.k, (.slice Aa1 a.x.monos.length ca1), (.slice Aa2 a.y.monos.length ca2)] 30))).frozen? ⟨w.heap.size, oo, none⟩ = false := fun oo => by simp
      generalize (w.alloc (Obj.cells #[.int .i64 a.kind, .int .i64 a.k, (.slice Aa1 a.x.monos.length ca1), (.slice Aa2 a.y.monos.length ca2)] 30)) = w0 at *
      have ya : w.heap.size < w0.heap.size := by omega
      have xa0 := hBa_0 0 _ rfl
      have xa1 := hBa_0 1 _ rfl
      have xa2 := hBa_0 2 _ rfl
      have xa3 := hBa_0 3 _ rfl
      go_wp2_with (first | (go_at_call 62; refine (isReg_any _ _).mono ?_; rintro e w' ⟨rfl, rfl⟩) | (go_at_call 59; refine (in_any _ _ _ _).mono ?_; rintro e w' ⟨rfl, rfl⟩))
      go_ret
      exact ⟨by rw [HV.out]; rfl, Ext.hold he0⟩
    · 
      have HV := hide (show atomOkB a n = false by rw [HV0.out, HB.out, qs, qi]; rfl)
      go_enter Try.func33, Try.ntmps33
      go_upto_region 1 with fail
      have he0 : Ext w (w.alloc (Obj.cells #[.int .i64 a.kind, .int .i64 a.k, (.slice Aa1 a.x.monos.length ca1), (.slice Aa2 a.y.monos.length ca2)] 30)) := (Ext.auto)
      have hs0 : w.heap.size + 1 ≤ ((w.alloc (Obj.cells #[.int .i64 a.kind, .int .i64 a.k, (.slice Aa1 a.x.monos.length ca1), (.slice Aa2 a.y.monos.length ca2)] 30))).heap.size := by simp
      have hq0 := hide (show ((w.alloc (Obj.cells #[.int .i64 a.kind, .int .i64 a.k, (.slice Aa1 a.x.monos.length ca1), (.slice Aa2 a.y.monos.length ca2)] 30))).heap.size = w.heap.size + 1 by simp)
      have hBa_0 : Bx (w.alloc (Obj.cells #[.int .i64 a.kind, .int .i64 a.k, (.slice Aa1 a.x.monos.length ca1), (.slice Aa2 a.y.monos.length ca2)] 30)) (w.heap.size) [.int .i64 a.kind, .int .i64 a.k, (.slice Aa1 a.x.monos.length ca1), (.slice Aa2 a.y.monos.length ca2)] := (by have := (Bx.new w #[.int .i64 a.kind, .int .i64 a.k, (.slice Aa1 a.x.monos.length ca1), (.slice Aa2 a.y.monos.length ca2)] 30); simpa using this)
      have hFa_0 : ∀ oo, ((w.alloc (Obj.cells #[.int .i64 a.kind, .int .i64 a.k, (.slice Aa1 a.x.monos.length ca1), (.slice Aa2 a.y.monos.length ca2)] 30))).frozen? ⟨w.heap.size, oo, none⟩ = false := fun oo => by simp
      generalize (w.alloc (Obj.cells #[.int .i64 a.kind, .int .i64 a.k, (.slice Aa1 a.x.monos.length ca1), (.slice Aa2 a.y.monos.length ca2)] 30)) = w0 at *
      have ya : w.heap.size < w0.heap.size := by omega
      have xa0 := hBa_0 0 _ rfl
      have xa1 := hBa_0 1 _ rfl
      have xa2 := hBa_0 2 _ rfl
      have xa3 := hBa_0 3 _ rfl
      go_wp2_with (first | (go_at_call 62; refine (isReg_any _ _).mono ?_; rintro e w' ⟨rfl, rfl⟩) | (go_at_call 59; refine (in_any _ _ _ _).mono ?_; rintro e w' ⟨rfl, rfl⟩))
      go_ret
      exact ⟨by rw [HV.out]; rfl, Ext.hold he0⟩
    · 
      have HV := hide (show atomOkB a n = false by rw [HV0.out, HB.out, qs, qi]; rfl)
      go_enter Try.func33, Try.ntmps33
      go_upto_region 1 with fail
      have he0 : Ext w (w.alloc (Obj.cells #[.int .i64 a.kind, .int .i64 a.k, (.slice Aa1 a.x.monos.length ca1), (.slice Aa2 a.y.monos.length ca2)] 30)) := (Ext.auto)
      have hs0 : w.heap.size + 1 ≤ ((w.alloc (Obj.cells #[.int .i64 a.kind, .int .i64 a.k, (.slice Aa1 a.x.monos.length ca1), (.slice Aa2 a.y.monos.length ca2)] 30))).heap.size := by simp
      have hq0 := hide (show ((w.alloc (Obj.cells #[.int .i64 a.kind, .int .i64 a.k, (.slice Aa1 a.x.monos.length ca1), (.slice Aa2 a.y.monos.length ca2)] 30))).heap.size = w.heap.size + 1 by simp)
      have hBa_0 : Bx (w.alloc (Obj.cells #[.int .i64 a.kind, .int .i64 a.k, (.slice Aa1 a.x.monos.length ca1), (.slice Aa2 a.y.monos.length ca2)] 30)) (w.heap.size) [.int .i64 a.kind, .int .i64 a.k, (.slice Aa1 a.x.monos.length ca1), (.slice Aa2 a.y.monos.length ca2)] := (by have := (Bx.new w #[.int .i64 a.kind, .int .i64 a.k, (.slice Aa1 a.x.monos.length ca1), (.slice Aa2 a.y.monos.length ca2)] 30); simpa using this)
      have hFa_0 : ∀ oo, ((w.alloc (Obj.cells #[.int .i64 a.kind, .int .i64 a.k, (.slice Aa1 a.x.monos.length ca1), (.slice Aa2 a.y.monos.length ca2)] 30))).frozen? ⟨w.heap.size, oo, none⟩ = false := fun oo => by simp
      generalize (w.alloc (Obj.cells #[.int .i64 a.kind, .int .i64 a.k, (.slice Aa1 a.x.monos.length ca1), (.slice Aa2 a.y.monos.length ca2)] 30)) = w0 at *
      have ya : w.heap.size < w0.heap.size := by omega
      have xa0 := hBa_0 0 _ rfl
      have xa1 := hBa_0 1 _ rfl
      have xa2 := hBa_0 2 _ rfl
      have xa3 := hBa_0 3 _ rfl
      go_wp2_with (first | (go_at_call 62; refine (isReg_any _ _).mono ?_; rintro e w' ⟨rfl, rfl⟩) | (go_at_call 59; refine (in_any _ _ _ _).mono ?_; rintro e w' ⟨rfl, rfl⟩))
      go_ret
      exact ⟨by rw [HV.out]; rfl, Ext.hold he0⟩
  by_cases e2 : a.kind = 2
  · have e := e2
    have HV0 := hide (show atomOkB a n = (inB a.k 0 199 && bareB a) by unfold atomOkB; rw [if_neg (by omega), if_pos (by omega)])
    have q1 : (a.kind == 1) = false := by simp; omega
    have q2 : (a.kind == 2) = true := by simp; omega
    have q3 : (a.kind == 3) = false := by simp; omega
    have q4 : (a.kind == 4) = false := by simp; omega
    clear e e1 e2
    have hb : bareB a = !decide ((0 : Int) < (a.x.monos.length : Int) + (a.y.monos.length : Int)) := by unfold bareB; rw [Bool.eq_iff_iff, Bool.and_eq_true, decide_eq_true_eq, decide_eq_true_eq, Bool.not_eq_true', decide_eq_false_iff_not]; omega
    have HB := hide hb
    clear hb
    have zw : IntKind.i64.wrap ((a.x.monos.length : Int) + (a.y.monos.length : Int)) = (a.x.monos.length : Int) + (a.y.monos.length : Int) := by rw [IntKind.wrap_i64]; omega
    cases qs : decide ((0 : Int) < (a.x.monos.length : Int) + (a.y.monos.length : Int)) <;> cases qi : inB a.k 0 199
    · 
      have HV := hide (show atomOkB a n = false by rw [HV0.out, HB.out, qs, qi]; rfl)
      go_enter Try.func33, Try.ntmps33
      go_upto_region 1 with fail
      have he0 : Ext w (w.alloc (Obj.cells #[.int .i64 a.kind, .int .i64 a.k, (.slice Aa1 a.x.monos.length ca1), (.slice Aa2 a.y.monos.length ca2)] 30)) := (Ext.auto)
      have hs0 : w.heap.size + 1 ≤ ((w.alloc (Obj.cells #[.int .i64 a.kind, .int .i64 a.k, (.slice Aa1 a.x.monos.length ca1), (.slice Aa2 a.y.monos.length ca2)] 30))).heap.size := by simp
      have hq0 := hide (show ((w.alloc (Obj.cells #[.int .i64 a.kind, .int .i64 a.k, (.slice Aa1 a.x.monos.length ca1), (.slice Aa2 a.y.monos.length ca2)] 30))).heap.size = w.heap.size + 1 by simp)
      have hBa_0 : Bx (w.alloc (Obj.cells #[.int .i64 a.kind, .int .i64 a.k, (.slice Aa1 a.x.monos.length ca1), (.slice Aa2 a.y.monos.length ca2)] 30)) (w.heap.size) [.int .i64 a.kind, .int .i64 a.k, (.slice Aa1 a.x.monos.length ca1), (.slice Aa2 a.y.monos.length ca2)] := (by have := (Bx.new w #[.int .i64 a.kind, .int .i64 a.k, (.slice Aa1 a.x.monos.length ca1), (.slice Aa2 a.y.monos.length ca2)] 30); simpa using this)
      have hFa_0 : ∀ oo, ((w.alloc (Obj.cells #[.int .i64 a.kind, .int .i64 a.k, (.slice Aa1 a.x.monos.length ca1), (.slice Aa2 a.y.monos.length ca2)] 30))).frozen? ⟨w.heap.size, oo, none⟩ = false := fun oo => by simp
      generalize (w.alloc (Obj.cells #[.int .i64 a.kind, .int .i64 a.k, (.slice Aa1 a.x.monos.length ca1), (.slice Aa2 a.y.monos.length ca2)] 30)) = w0 at *
      have ya : w.heap.size < w0.heap.size := by omega
      have xa0 := hBa_0 0 _ rfl
      have xa1 := hBa_0 1 _ rfl
      have xa2 := hBa_0 2 _ rfl
      have xa3 := hBa_0 3 _ rfl
      go_wp2_with (first | (go_at_call 62; refine (isReg_any _ _).mono ?_; rintro e w' ⟨rfl, rfl⟩) | (go_at_call 59; refine (in_any _ _ _ _).mono ?_; rintro e w' ⟨rfl, rfl⟩))
      go_ret
      exact ⟨by rw [HV.out]; rfl, Ext.hold he0⟩
    · 
      have HV := hide (show atomOkB a n = true by rw [HV0.out, HB.out, qs, qi]; rfl)
      go_enter Try.func33, Try.ntmps33
      go_upto_region 1 with fail
      have he0 : Ext w (w.alloc (Obj.cells #[.int .i64 a.kind, .int .i64 a.k, (.slice Aa1 a.x.monos.length ca1), (.slice Aa2 a.y.monos.length ca2)] 30)) := (Ext.auto)
      have hs0 : w.heap.size + 1 ≤ ((w.alloc (Obj.cells #[.int .i64 a.kind, .int .i64 a.k, (.slice Aa1 a.x.monos.length ca1), (.slice Aa2 a.y.monos.length ca2)] 30))).heap.size := by simp
      have hq0 := hide (show ((w.alloc (Obj.cells #[.int .i64 a.kind, .int .i64 a.k, (.slice Aa1 a.x.monos.length ca1), (.slice Aa2 a.y.monos.length ca2)] 30))).heap.size = w.heap.size + 1 by simp)
      have hBa_0 : Bx (w.alloc (Obj.cells #[.int .i64 a.kind, .int .i64 a.k, (.slice Aa1 a.x.monos.length ca1), (.slice Aa2 a.y.monos.length ca2)] 30)) (w.heap.size) [.int .i64 a.kind, .int .i64 a.k, (.slice Aa1 a.x.monos.length ca1), (.slice Aa2 a.y.monos.length ca2)] := (by have := (Bx.new w #[.int .i64 a.kind, .int .i64 a.k, (.slice Aa1 a.x.monos.length ca1), (.slice Aa2 a.y.monos.length ca2)] 30); simpa using this)
      have hFa_0 : ∀ oo, ((w.alloc (Obj.cells #[.int .i64 a.kind, .int .i64 a.k, (.slice Aa1 a.x.monos.length ca1), (.slice Aa2 a.y.monos.length ca2)] 30))).frozen? ⟨w.heap.size, oo, none⟩ = false := fun oo => by simp
      generalize (w.alloc (Obj.cells #[.int .i64 a.kind, .int .i64 a.k, (.slice Aa1 a.x.monos.length ca1), (.slice Aa2 a.y.monos.length ca2)] 30)) = w0 at *
      have ya : w.heap.size < w0.heap.size := by omega
      have xa0 := hBa_0 0 _ rfl
      have xa1 := hBa_0 1 _ rfl
      have xa2 := hBa_0 2 _ rfl
      have xa3 := hBa_0 3 _ rfl
      go_wp2_with (first | (go_at_call 62; refine (isReg_any _ _).mono ?_; rintro e w' ⟨rfl, rfl⟩) | (go_at_call 59; refine (in_any _ _ _ _).mono ?_; rintro e w' ⟨rfl, rfl⟩))
      go_ret
      exact ⟨by rw [HV.out]; rfl, Ext.hold he0⟩
    · 
      have HV := hide (show atomOkB a n = false by rw [HV0.out, HB.out, qs, qi]; rfl)
      go_enter Try.func33, Try.ntmps33
      go_upto_region 1 with fail
      have he0 : Ext w (w.alloc (Obj.cells #[.int .i64 a.kind, .int .i64 a.k, (.slice Aa1 a.x.monos.length ca1), (.slice Aa2 a.y.monos.length ca2)] 30)) := (Ext.auto)
      have hs0 : w.heap.size + 1 ≤ ((w.alloc (Obj.cells #[.int .i64 a.kind, .int .i64 a.k, (.slice Aa1 a.x.monos.length ca1), (.slice Aa2 a.y.monos.length ca2)] 30))).heap.size := by simp
      have hq0 := hide (show ((w.alloc (Obj.cells #[.int .i64 a.kind, .int .i64 a.k, (.slice Aa1 a.x.monos.length ca1), (.slice Aa2 a.y.monos.length ca2)] 30))).heap.size = w.heap.size + 1 by simp)
      have hBa_0 : Bx (w.alloc (Obj.cells #[.int .i64 a.kind, .int .i64 a.k, (.slice Aa1 a.x.monos.length ca1), (.slice Aa2 a.y.monos.length ca2)] 30)) (w.heap.size) [.int .i64 a.kind, .int .i64 a.k, (.slice Aa1 a.x.monos.length ca1), (.slice Aa2 a.y.monos.length ca2)] := (by have := (Bx.new w #[.int .i64 a.kind, .int .i64 a.k, (.slice Aa1 a.x.monos.length ca1), (.slice Aa2 a.y.monos.length ca2)] 30); simpa using this)
      have hFa_0 : ∀ oo, ((w.alloc (Obj.cells #[.int .i64 a.kind, .int .i64 a.k, (.slice Aa1 a.x.monos.length ca1), (.slice Aa2 a.y.monos.length ca2)] 30))).frozen? ⟨w.heap.size, oo, none⟩ = false := fun oo => by simp
      generalize (w.alloc (Obj.cells #[.int .i64 a.kind, .int .i64 a.k, (.slice Aa1 a.x.monos.length ca1), (.slice Aa2 a.y.monos.length ca2)] 30)) = w0 at *
      have ya : w.heap.size < w0.heap.size := by omega
      have xa0 := hBa_0 0 _ rfl
      have xa1 := hBa_0 1 _ rfl
      have xa2 := hBa_0 2 _ rfl
      have xa3 := hBa_0 3 _ rfl
      go_wp2_with (first | (go_at_call 62; refine (isReg_any _ _).mono ?_; rintro e w' ⟨rfl, rfl⟩) | (go_at_call 59; refine (in_any _ _ _ _).mono ?_; rintro e w' ⟨rfl, rfl⟩))
      go_ret
      exact ⟨by rw [HV.out]; rfl, Ext.hold he0⟩
    · 
      have HV := hide (show atomOkB a n = false by rw [HV0.out, HB.out, qs, qi]; rfl)
      go_enter Try.func33, Try.ntmps33
      go_upto_region 1 with fail
      have he0 : Ext w (w.alloc (Obj.cells #[.int .i64 a.kind, .int .i64 a.k, (.slice Aa1 a.x.monos.length ca1), (.slice Aa2 a.y.monos.length ca2)] 30)) := (Ext.auto)
      have hs0 : w.heap.size + 1 ≤ ((w.alloc (Obj.cells #[.int .i64 a.kind, .int .i64 a.k, (.slice Aa1 a.x.monos.length ca1), (.slice Aa2 a.y.monos.length ca2)] 30))).heap.size := by simp
      have hq0 := hide (show ((w.alloc (Obj.cells #[.int .i64 a.kind, .int .i64 a.k, (.slice Aa1 a.x.monos.length ca1), (.slice Aa2 a.y.monos.length ca2)] 30))).heap.size = w.heap.size + 1 by simp)
      have hBa_0 : Bx (w.alloc (Obj.cells #[.int .i64 a.kind, .int .i64 a.k, (.slice Aa1 a.x.monos.length ca1), (.slice Aa2 a.y.monos.length ca2)] 30)) (w.heap.size) [.int .i64 a.kind, .int .i64 a.k, (.slice Aa1 a.x.monos.length ca1), (.slice Aa2 a.y.monos.length ca2)] := (by have := (Bx.new w #[.int .i64 a.kind, .int .i64 a.k, (.slice Aa1 a.x.monos.length ca1), (.slice Aa2 a.y.monos.length ca2)] 30); simpa using this)
      have hFa_0 : ∀ oo, ((w.alloc (Obj.cells #[.int .i64 a.kind, .int .i64 a.k, (.slice Aa1 a.x.monos.length ca1), (.slice Aa2 a.y.monos.length ca2)] 30))).frozen? ⟨w.heap.size, oo, none⟩ = false := fun oo => by simp
      generalize (w.alloc (Obj.cells #[.int .i64 a.kind, .int .i64 a.k, (.slice Aa1 a.x.monos.length ca1), (.slice Aa2 a.y.monos.length ca2)] 30)) = w0 at *
      have ya : w.heap.size < w0.heap.size := by omega
      have xa0 := hBa_0 0 _ rfl
      have xa1 := hBa_0 1 _ rfl
      have xa2 := hBa_0 2 _ rfl
      have xa3 := hBa_0 3 _ rfl
      go_wp2_with (first | (go_at_call 62; refine (isReg_any _ _).mono ?_; rintro e w' ⟨rfl, rfl⟩) | (go_at_call 59; refine (in_any _ _ _ _).mono ?_; rintro e w' ⟨rfl, rfl⟩))
      go_ret
      exact ⟨by rw [HV.out]; rfl, Ext.hold he0⟩
  by_cases e3 : a.kind = 3
  · have e := e3
    have HV0 := hide (show atomOkB a n = (inB a.k 0 199 && bareB a) by unfold atomOkB; rw [if_neg (by omega), if_pos (by omega)])
    have q1 : (a.kind == 1) = false := by simp; omega
    have q2 : (a.kind == 2) = false := by simp; omega
    have q3 : (a.kind == 3) = true := by simp; omega
    have q4 : (a.kind == 4) = false := by simp; omega
    clear e e1 e2 e3
    have hb : bareB a = !decide ((0 : Int) < (a.x.monos.length : Int) + (a.y.monos.length : Int)) := by unfold bareB; rw [Bool.eq_iff_iff, Bool.and_eq_true, decide_eq_true_eq, decide_eq_true_eq, Bool.not_eq_true', decide_eq_false_iff_not]; omega
    have HB := hide hb
    clear hb
    have zw : IntKind.i64.wrap ((a.x.monos.length : Int) + (a.y.monos.length : Int)) = (a.x.monos.length : Int) + (a.y.monos.length : Int) := by rw [IntKind.wrap_i64]; omega
    cases qs : decide ((0 : Int) < (a.x.monos.length : Int) + (a.y.monos.length : Int)) <;> cases qi : inB a.k 0 199
    · 
      have HV := hide (show atomOkB a n = false by rw [HV0.out, HB.out, qs, qi]; rfl)
      go_enter Try.func33, Try.ntmps33
      go_upto_region 1 with fail
      have he0 : Ext w (w.alloc (Obj.cells #[.int .i64 a.kind, .int .i64 a.k, (.slice Aa1 a.x.monos.length ca1), (.slice Aa2 a.y.monos.length ca2)] 30)) := (Ext.auto)
      have hs0 : w.heap.size + 1 ≤ ((w.alloc (Obj.cells #[.int .i64 a.kind, .int .i64 a.k, (.slice Aa1 a.x.monos.length ca1), (.slice Aa2 a.y.monos.length ca2)] 30))).heap.size := by simp
      have hq0 := hide (show ((w.alloc (Obj.cells #[.int .i64 a.kind, .int .i64 a.k, (.slice Aa1 a.x.monos.length ca1), (.slice Aa2 a.y.monos.length ca2)] 30))).heap.size = w.heap.size + 1 by simp)
      have hBa_0 : Bx (w.alloc (Obj.cells #[.int .i64 a.kind, .int .i64 a.k, (.slice Aa1 a.x.monos.length ca1), (.slice Aa2 a.y.monos.length ca2)] 30)) (w.heap.size) [.int .i64 a.kind, .int .i64 a.k, (.slice Aa1 a.x.monos.length ca1), (.slice Aa2 a.y.monos.length ca2)] := (by have := (Bx.new w #[.int .i64 a.kind, .int .i64 a.k, (.slice Aa1 a.x.monos.length ca1), (.slice Aa2 a.y.monos.length ca2)] 30); simpa using this)
      have hFa_0 : ∀ oo, ((w.alloc (Obj.cells #[.int .i64 a.kind, .int .i64 a.k, (.slice Aa1 a.x.monos.length ca1), (.slice Aa2 a.y.monos.length ca2)] 30))).frozen? ⟨w.heap.size, oo, none⟩ = false := fun oo => by simp
      generalize (w.alloc (Obj.cells #[.int .i64 a.kind, .int .i64 a.k, (.slice Aa1 a.x.monos.length ca1), (.slice Aa2 a.y.monos.length ca2)] 30)) = w0 at *
      have ya : w.heap.size < w0.heap.size := by omega
      have xa0 := hBa_0 0 _ rfl
      have xa1 := hBa_0 1 _ rfl
      have xa2 := hBa_0 2 _ rfl
      have xa3 := hBa_0 3 _ rfl
      go_wp2_with (first | (go_at_call 62; refine (isReg_any _ _).mono ?_; rintro e w' ⟨rfl, rfl⟩) | (go_at_call 59; refine (in_any _ _ _ _).mono ?_; rintro e w' ⟨rfl, rfl⟩))
      go_ret
      exact ⟨by rw [HV.out]; rfl, Ext.hold he0⟩
    · 
      have HV := hide (show atomOkB a n = true by rw [HV0.out, HB.out, qs, qi]; rfl)
      go_enter Try.func33, Try.ntmps33
      go_upto_region 1 with fail
      have he0 : Ext w (w.alloc (Obj.cells #[.int .i64 a.kind, .int .i64 a.k, (.slice Aa1 a.x.monos.length ca1), (.slice Aa2 a.y.monos.length ca2)] 30)) := (Ext.auto)
      have hs0 : w.heap.size + 1 ≤ ((w.alloc (Obj.cells #[.int .i64 a.kind, .int .i64 a.k, (.slice Aa1 a.x.monos.length ca1), (.slice Aa2 a.y.monos.length ca2)] 30))).heap.size := by simp
      have hq0 := hide (show ((w.alloc (Obj.cells #[.int .i64 a.kind, .int .i64 a.k, (.slice Aa1 a.x.monos.length ca1), (.slice Aa2 a.y.monos.length ca2)] 30))).heap.size = w.heap.size + 1 by simp)
      have hBa_0 : Bx (w.alloc (Obj.cells #[.int .i64 a.kind, .int .i64 a.k, (.slice Aa1 a.x.monos.length ca1), (.slice Aa2 a.y.monos.length ca2)] 30)) (w.heap.size) [.int .i64 a.kind, .int .i64 a.k, (.slice Aa1 a.x.monos.length ca1), (.slice Aa2 a.y.monos.length ca2)] := (by have := (Bx.new w #[.int .i64 a.kind, .int .i64 a.k, (.slice Aa1 a.x.monos.length ca1), (.slice Aa2 a.y.monos.length ca2)] 30); simpa using this)
      have hFa_0 : ∀ oo, ((w.alloc (Obj.cells #[.int .i64 a.kind, .int .i64 a.k, (.slice Aa1 a.x.monos.length ca1), (.slice Aa2 a.y.monos.length ca2)] 30))).frozen? ⟨w.heap.size, oo, none⟩ = false := fun oo => by simp
      generalize (w.alloc (Obj.cells #[.int .i64 a.kind, .int .i64 a.k, (.slice Aa1 a.x.monos.length ca1), (.slice Aa2 a.y.monos.length ca2)] 30)) = w0 at *
      have ya : w.heap.size < w0.heap.size := by omega
      have xa0 := hBa_0 0 _ rfl
      have xa1 := hBa_0 1 _ rfl
      have xa2 := hBa_0 2 _ rfl
      have xa3 := hBa_0 3 _ rfl
      go_wp2_with (first | (go_at_call 62; refine (isReg_any _ _).mono ?_; rintro e w' ⟨rfl, rfl⟩) | (go_at_call 59; refine (in_any _ _ _ _).mono ?_; rintro e w' ⟨rfl, rfl⟩))
      go_ret
      exact ⟨by rw [HV.out]; rfl, Ext.hold he0⟩
    · 
      have HV := hide (show atomOkB a n = false by rw [HV0.out, HB.out, qs, qi]; rfl)
      go_enter Try.func33, Try.ntmps33
      go_upto_region 1 with fail
      have he0 : Ext w (w.alloc (Obj.cells #[.int .i64 a.kind, .int .i64 a.k, (.slice Aa1 a.x.monos.length ca1), (.slice Aa2 a.y.monos.length ca2)] 30)) := (Ext.auto)
      have hs0 : w.heap.size + 1 ≤ ((w.alloc (Obj.cells #[.int .i64 a.kind, .int .i64 a.k, (.slice Aa1 a.x.monos.length ca1), (.slice Aa2 a.y.monos.length ca2)] 30))).heap.size := by simp
      have hq0 := hide (show ((w.alloc (Obj.cells #[.int .i64 a.kind, .int .i64 a.k, (.slice Aa1 a.x.monos.length ca1), (.slice Aa2 a.y.monos.length ca2)] 30))).heap.size = w.heap.size + 1 by simp)
      have hBa_0 : Bx (w.alloc (Obj.cells #[.int .i64 a.kind, .int .i64 a.k, (.slice Aa1 a.x.monos.length ca1), (.slice Aa2 a.y.monos.length ca2)] 30)) (w.heap.size) [.int .i64 a.kind, .int .i64 a.k, (.slice Aa1 a.x.monos.length ca1), (.slice Aa2 a.y.monos.length ca2)] := (by have := (Bx.new w #[.int .i64 a.kind, .int .i64 a.k, (.slice Aa1 a.x.monos.length ca1), (.slice Aa2 a.y.monos.length ca2)] 30); simpa using this)
      have hFa_0 : ∀ oo, ((w.alloc (Obj.cells #[.int .i64 a.kind, .int .i64 a.k, (.slice Aa1 a.x.monos.length ca1), (.slice Aa2 a.y.monos.length ca2)] 30))).frozen? ⟨w.heap.size, oo, none⟩ = false := fun oo => by simp
      generalize (w.alloc (Obj.cells #[.int .i64 a.kind, .int .i64 a.k, (.slice Aa1 a.x.monos.length ca1), (.slice Aa2 a.y.monos.length ca2)] 30)) = w0 at *
      have ya : w.heap.size < w0.heap.size := by omega
      have xa0 := hBa_0 0 _ rfl
      have xa1 := hBa_0 1 _ rfl
      have xa2 := hBa_0 2 _ rfl
      have xa3 := hBa_0 3 _ rfl
      go_wp2_with (first | (go_at_call 62; refine (isReg_any _ _).mono ?_; rintro e w' ⟨rfl, rfl⟩) | (go_at_call 59; refine (in_any _ _ _ _).mono ?_; rintro e w' ⟨rfl, rfl⟩))
      go_ret
      exact ⟨by rw [HV.out]; rfl, Ext.hold he0⟩
    · 
      have HV := hide (show atomOkB a n = false by rw [HV0.out, HB.out, qs, qi]; rfl)
      go_enter Try.func33, Try.ntmps33
      go_upto_region 1 with fail
      have he0 : Ext w (w.alloc (Obj.cells #[.int .i64 a.kind, .int .i64 a.k, (.slice Aa1 a.x.monos.length ca1), (.slice Aa2 a.y.monos.length ca2)] 30)) := (Ext.auto)
      have hs0 : w.heap.size + 1 ≤ ((w.alloc (Obj.cells #[.int .i64 a.kind, .int .i64 a.k, (.slice Aa1 a.x.monos.length ca1), (.slice Aa2 a.y.monos.length ca2)] 30))).heap.size := by simp
      have hq0 := hide (show ((w.alloc (Obj.cells #[.int .i64 a.kind, .int .i64 a.k, (.slice Aa1 a.x.monos.length ca1), (.slice Aa2 a.y.monos.length ca2)] 30))).heap.size = w.heap.size + 1 by simp)
      have hBa_0 : Bx (w.alloc (Obj.cells #[.int .i64 a.kind, .int .i64 a.k, (.slice Aa1 a.x.monos.length ca1), (.slice Aa2 a.y.monos.length ca2)] 30)) (w.heap.size) [.int .i64 a.kind, .int .i64 a.k, (.slice Aa1 a.x.monos.length ca1), (.slice Aa2 a.y.monos.length ca2)] := (by have := (Bx.new w #[.int .i64 a.kind, .int .i64 a.k, (.slice Aa1 a.x.monos.length ca1), (.slice Aa2 a.y.monos.length ca2)] 30); simpa using this)
      have hFa_0 : ∀ oo, ((w.alloc (Obj.cells #[.int .i64 a.kind, .int .i64 a.k, (.slice Aa1 a.x.monos.length ca1), (.slice Aa2 a.y.monos.length ca2)] 30))).frozen? ⟨w.heap.size, oo, none⟩ = false := fun oo => by simp
      generalize (w.alloc (Obj.cells #[.int .i64 a.kind, .int .i64 a.k, (.slice Aa1 a.x.monos.length ca1), (.slice Aa2 a.y.monos.length ca2)] 30)) = w0 at *
      have ya : w.heap.size < w0.heap.size := by omega
      have xa0 := hBa_0 0 _ rfl
      have xa1 := hBa_0 1 _ rfl
      have xa2 := hBa_0 2 _ rfl
      have xa3 := hBa_0 3 _ rfl
      go_wp2_with (first | (go_at_call 62; refine (isReg_any _ _).mono ?_; rintro e w' ⟨rfl, rfl⟩) | (go_at_call 59; refine (in_any _ _ _ _).mono ?_; rintro e w' ⟨rfl, rfl⟩))
      go_ret
      exact ⟨by rw [HV.out]; rfl, Ext.hold he0⟩
  by_cases e4 : a.kind = 4
  rotate_left
  · 
    have HV := hide (show atomOkB a n = false by unfold atomOkB; rw [if_neg (by omega), if_neg (by omega), if_neg (by omega)])
    have q1 : (a.kind == 1) = false := by simp; omega
    have q2 : (a.kind == 2) = false := by simp; omega
    have q3 : (a.kind == 3) = false := by simp; omega
    have q4 : (a.kind == 4) = false := by simp; omega
    clear e1 e2 e3 e4
    have zw : IntKind.i64.wrap ((a.x.monos.length : Int) + (a.y.monos.length : Int)) = (a.x.monos.length : Int) + (a.y.monos.length : Int) := by rw [IntKind.wrap_i64]; omega
    cases qs : decide ((0 : Int) < (a.x.monos.length : Int) + (a.y.monos.length : Int))
    · 
      go_enter Try.func33, Try.ntmps33
      go_upto_region 1 with fail
      have he0 : Ext w (w.alloc (Obj.cells #[.int .i64 a.kind, .int .i64 a.k, (.slice Aa1 a.x.monos.length ca1), (.slice Aa2 a.y.monos.length ca2)] 30)) := (Ext.auto)
      have hs0 : w.heap.size + 1 ≤ ((w.alloc (Obj.cells #[.int .i64 a.kind, .int .i64 a.k, (.slice Aa1 a.x.monos.length ca1), (.slice Aa2 a.y.monos.length ca2)] 30))).heap.size := by simp
      have hq0 := hide (show ((w.alloc (Obj.cells #[.int .i64 a.kind, .int .i64 a.k, (.slice Aa1 a.x.monos.length ca1), (.slice Aa2 a.y.monos.length ca2)] 30))).heap.size = w.heap.size + 1 by simp)
      have hBa_0 : Bx (w.alloc (Obj.cells #[.int .i64 a.kind, .int .i64 a.k, (.slice Aa1 a.x.monos.length ca1), (.slice Aa2 a.y.monos.length ca2)] 30)) (w.heap.size) [.int .i64 a.kind, .int .i64 a.k, (.slice Aa1 a.x.monos.length ca1), (.slice Aa2 a.y.monos.length ca2)] := (by have := (Bx.new w #[.int .i64 a.kind, .int .i64 a.k, (.slice Aa1 a.x.monos.length ca1), (.slice Aa2 a.y.monos.length ca2)] 30); simpa using this)
      have hFa_0 : ∀ oo, ((w.alloc (Obj.cells #[.int .i64 a.kind, .int .i64 a.k, (.slice Aa1 a.x.monos.length ca1), (.slice Aa2 a.y.monos.length ca2)] 30))).frozen? ⟨w.heap.size, oo, none⟩ = false := fun oo => by simp
      generalize (w.alloc (Obj.cells #[.int .i64 a.kind, .int .i64 a.k, (.slice Aa1 a.x.monos.length ca1), (.slice Aa2 a.y.monos.length ca2)] 30)) = w0 at *
      have ya : w.heap.size < w0.heap.size := by omega
      have xa0 := hBa_0 0 _ rfl
      have xa1 := hBa_0 1 _ rfl
      have xa2 := hBa_0 2 _ rfl
      have xa3 := hBa_0 3 _ rfl
      go_wp2
      go_ret
      exact ⟨by rw [HV.out]; rfl, Ext.hold he0⟩
    · 
      go_enter Try.func33, Try.ntmps33
      go_upto_region 1 with fail
      have he0 : Ext w (w.alloc (Obj.cells #[.int .i64 a.kind, .int .i64 a.k, (.slice Aa1 a.x.monos.length ca1), (.slice Aa2 a.y.monos.length ca2)] 30)) := (Ext.auto)
      have hs0 : w.heap.size + 1 ≤ ((w.alloc (Obj.cells #[.int .i64 a.kind, .int .i64 a.k, (.slice Aa1 a.x.monos.length ca1), (.slice Aa2 a.y.monos.length ca2)] 30))).heap.size := by simp
      have hq0 := hide (show ((w.alloc (Obj.cells #[.int .i64 a.kind, .int .i64 a.k, (.slice Aa1 a.x.monos.length ca1), (.slice Aa2 a.y.monos.length ca2)] 30))).heap.size = w.heap.size + 1 by simp)
      have hBa_0 : Bx (w.alloc (Obj.cells #[.int .i64 a.kind, .int .i64 a.k, (.slice Aa1 a.x.monos.length ca1), (.slice Aa2 a.y.monos.length ca2)] 30)) (w.heap.size) [.int .i64 a.kind, .int .i64 a.k, (.slice Aa1 a.x.monos.length ca1), (.slice Aa2 a.y.monos.length ca2)] := (by have := (Bx.new w #[.int .i64 a.kind, .int .i64 a.k, (.slice Aa1 a.x.monos.length ca1), (.slice Aa2 a.y.monos.length ca2)] 30); simpa using this)
      have hFa_0 : ∀ oo, ((w.alloc (Obj.cells #[.int .i64 a.kind, .int .i64 a.k, (.slice Aa1 a.x.monos.length ca1), (.slice Aa2 a.y.monos.length ca2)] 30))).frozen? ⟨w.heap.size, oo, none⟩ = false := fun oo => by simp
      generalize (w.alloc (Obj.cells #[.int .i64 a.kind, .int .i64 a.k, (.slice Aa1 a.x.monos.length ca1), (.slice Aa2 a.y.monos.length ca2)] 30)) = w0 at *
      have ya : w.heap.size < w0.heap.size := by omega
      have xa0 := hBa_0 0 _ rfl
      have xa1 := hBa_0 1 _ rfl
      have xa2 := hBa_0 2 _ rfl
      have xa3 := hBa_0 3 _ rfl
      go_wp2
      go_ret
      exact ⟨by rw [HV.out]; rfl, Ext.hold he0⟩
  have HV0 := hide (show atomOkB a n = (inB a.k 1 5 && polOkB a.x && polOkB a.y && polUnderB a.x n && polUnderB a.y n) by unfold atomOkB; rw [if_neg (by omega), if_neg (by omega), if_pos e4])
  have q1 : (a.kind == 1) = false := by simp; omega
  have q2 : (a.kind == 2) = false := by simp; omega
  have q3 : (a.kind == 3) = false := by simp; omega
  have q4 : (a.kind == 4) = true := by simp; omega
  clear e1 e2 e3 e4
  cases r0 : inB a.k 1 5
  · 
    have HV := hide (show atomOkB a n = false by rw [HV0.out, r0]; rfl)
    go_enter Try.func33, Try.ntmps33
    go_upto_region 1 with fail
    have he0 : Ext w (w.alloc (Obj.cells #[.int .i64 a.kind, .int .i64 a.k, (.slice Aa1 a.x.monos.length ca1), (.slice Aa2 a.y.monos.length ca2)] 30)) := (Ext.auto)
    have hs0 : w.heap.size + 1 ≤ ((w.alloc (Obj.cells #[.int .i64 a.kind, .int .i64 a.k, (.slice Aa1 a.x.monos.length ca1), (.slice Aa2 a.y.monos.length ca2)] 30))).heap.size := by simp
    have hq0 := hide (show ((w.alloc (Obj.cells #[.int .i64 a.kind, .int .i64 a.k, (.slice Aa1 a.x.monos.length ca1), (.slice Aa2 a.y.monos.length ca2)] 30))).heap.size = w.heap.size + 1 by simp)
    have hBa_0 : Bx (w.alloc (Obj.cells #[.int .i64 a.kind, .int .i64 a.k, (.slice Aa1 a.x.monos.length ca1), (.slice Aa2 a.y.monos.length ca2)] 30)) (w.heap.size) [.int .i64 a.kind, .int .i64 a.k, (.slice Aa1 a.x.monos.length ca1), (.slice Aa2 a.y.monos.length ca2)] := (by have := (Bx.new w #[.int .i64 a.kind, .int .i64 a.k, (.slice Aa1 a.x.monos.length ca1), (.slice Aa2 a.y.monos.length ca2)] 30); simpa using this)
    have hFa_0 : ∀ oo, ((w.alloc (Obj.cells #[.int .i64 a.kind, .int .i64 a.k, (.slice Aa1 a.x.monos.length ca1), (.slice Aa2 a.y.monos.length ca2)] 30))).frozen? ⟨w.heap.size, oo, none⟩ = false := fun oo => by simp
    generalize (w.alloc (Obj.cells #[.int .i64 a.kind, .int .i64 a.k, (.slice Aa1 a.x.monos.length ca1), (.slice Aa2 a.y.monos.length ca2)] 30)) = w0 at *
    have ya : w.heap.size < w0.heap.size := by omega
    have xa0 := hBa_0 0 _ rfl
    have xa1 := hBa_0 1 _ rfl
    have xa2 := hBa_0 2 _ rfl
    have xa3 := hBa_0 3 _ rfl
    go_wp2_with (go_at_call 60; refine (isOp_any _ _).mono ?_; rintro e w' ⟨rfl, rfl⟩)
    go_ret
    exact ⟨by rw [HV.out]; rfl, Ext.hold he0⟩
  cases r1 : polOkB a.x
  · 
    have HV := hide (show atomOkB a n = false by rw [HV0.out, r0, r1]; rfl)
    go_enter Try.func33, Try.ntmps33
    go_upto_region 1 with fail
    have he0 : Ext w (w.alloc (Obj.cells #[.int .i64 a.kind, .int .i64 a.k, (.slice Aa1 a.x.monos.length ca1), (.slice Aa2 a.y.monos.length ca2)] 30)) := (Ext.auto)
    have hs0 : w.heap.size + 1 ≤ ((w.alloc (Obj.cells #[.int .i64 a.kind, .int .i64 a.k, (.slice Aa1 a.x.monos.length ca1), (.slice Aa2 a.y.monos.length ca2)] 30))).heap.size := by simp
    have hq0 := hide (show ((w.alloc (Obj.cells #[.int .i64 a.kind, .int .i64 a.k, (.slice Aa1 a.x.monos.length ca1), (.slice Aa2 a.y.monos.length ca2)] 30))).heap.size = w.heap.size + 1 by simp)
    have hBa_0 : Bx (w.alloc (Obj.cells #[.int .i64 a.kind, .int .i64 a.k, (.slice Aa1 a.x.monos.length ca1), (.slice Aa2 a.y.monos.length ca2)] 30)) (w.heap.size) [.int .i64 a.kind, .int .i64 a.k, (.slice Aa1 a.x.monos.length ca1), (.slice Aa2 a.y.monos.length ca2)] := (by have := (Bx.new w #[.int .i64 a.kind, .int .i64 a.k, (.slice Aa1 a.x.monos.length ca1), (.slice Aa2 a.y.monos.length ca2)] 30); simpa using this)
    have hFa_0 : ∀ oo, ((w.alloc (Obj.cells #[.int .i64 a.kind, .int .i64 a.k, (.slice Aa1 a.x.monos.length ca1), (.slice Aa2 a.y.monos.length ca2)] 30))).frozen? ⟨w.heap.size, oo, none⟩ = false := fun oo => by simp
    generalize (w.alloc (Obj.cells #[.int .i64 a.kind, .int .i64 a.k, (.slice Aa1 a.x.monos.length ca1), (.slice Aa2 a.y.monos.length ca2)] 30)) = w0 at *
    have ya : w.heap.size < w0.heap.size := by omega
    have xa0 := hBa_0 0 _ rfl
    have xa1 := hBa_0 1 _ rfl
    have xa2 := hBa_0 2 _ rfl
    have xa3 := hBa_0 3 _ rfl
    go_wp2_with (go_at_call 60; refine (isOp_any _ _).mono ?_; rintro e w' ⟨rfl, rfl⟩)
    refine (implPolOk_any a.x _ _ (ha1.ext (Ext.trans he0 Ext.auto))).mono ?_
    rintro e w1 ⟨rfl, hy⟩
    clear xa0 xa1 xa2 xa3 ya
    have hx1 : Ext w0 w1 := Ext.trans (Ext.auto) hy
    have hs1 := hx1.size
    have he1 : Ext w w1 := he0.trans hx1
    have hBa_1 : Bx w1 (w.heap.size) [.int .i64 a.kind, .int .i64 a.k, (.slice Aa1 a.x.monos.length ca1), (.slice Aa2 a.y.monos.length ca2)] := hx1.bx hBa_0 (by omega)
    have hFa_1 : ∀ oo, w1.frozen? ⟨w.heap.size, oo, none⟩ = false := fun oo => (hx1.frozen (by omega)).trans (hFa_0 oo)
    clear hBa_0 hFa_0
    clear hy
    have ya : w.heap.size < w1.heap.size := by omega
    have xa0 := hBa_1 0 _ rfl
    have xa1 := hBa_1 1 _ rfl
    have xa2 := hBa_1 2 _ rfl
    have xa3 := hBa_1 3 _ rfl
    simp only [r1]
    go_wp2
    go_ret
    exact ⟨by rw [HV.out]; rfl, Ext.hold he1⟩
  cases r2 : polOkB a.y
  · 
    have HV := hide (show atomOkB a n = false by rw [HV0.out, r0, r1, r2]; rfl)
    go_enter Try.func33, Try.ntmps33
    go_upto_region 1 with fail
    have he0 : Ext w (w.alloc (Obj.cells #[.int .i64 a.kind, .int .i64 a.k, (.slice Aa1 a.x.monos.length ca1), (.slice Aa2 a.y.monos.length ca2)] 30)) := (Ext.auto)
    have hs0 : w.heap.size + 1 ≤ ((w.alloc (Obj.cells #[.int .i64 a.kind, .int .i64 a.k, (.slice Aa1 a.x.monos.length ca1), (.slice Aa2 a.y.monos.length ca2)] 30))).heap.size := by simp
    have hq0 := hide (show ((w.alloc (Obj.cells #[.int .i64 a.kind, .int .i64 a.k, (.slice Aa1 a.x.monos.length ca1), (.slice Aa2 a.y.monos.length ca2)] 30))).heap.size = w.heap.size + 1 by simp)
    have hBa_0 : Bx (w.alloc (Obj.cells #[.int .i64 a.kind, .int .i64 a.k, (.slice Aa1 a.x.monos.length ca1), (.slice Aa2 a.y.monos.length ca2)] 30)) (w.heap.size) [.int .i64 a.kind, .int .i64 a.k, (.slice Aa1 a.x.monos.length ca1), (.slice Aa2 a.y.monos.length ca2)] := (by have := (Bx.new w #[.int .i64 a.kind, .int .i64 a.k, (.slice Aa1 a.x.monos.length ca1), (.slice Aa2 a.y.monos.length ca2)] 30); simpa using this)
    have hFa_0 : ∀ oo, ((w.alloc (Obj.cells #[.int .i64 a.kind, .int .i64 a.k, (.slice Aa1 a.x.monos.length ca1), (.slice Aa2 a.y.monos.length ca2)] 30))).frozen? ⟨w.heap.size, oo, none⟩ = false := fun oo => by simp
    generalize (w.alloc (Obj.cells #[.int .i64 a.kind, .int .i64 a.k, (.slice Aa1 a.x.monos.length ca1), (.slice Aa2 a.y.monos.length ca2)] 30)) = w0 at *
    have ya : w.heap.size < w0.heap.size := by omega
    have xa0 := hBa_0 0 _ rfl
    have xa1 := hBa_0 1 _ rfl
    have xa2 := hBa_0 2 _ rfl
    have xa3 := hBa_0 3 _ rfl
    go_wp2_with (go_at_call 60; refine (isOp_any _ _).mono ?_; rintro e w' ⟨rfl, rfl⟩)
    refine (implPolOk_any a.x _ _ (ha1.ext (Ext.trans he0 Ext.auto))).mono ?_
    rintro e w1 ⟨rfl, hy⟩
    clear xa0 xa1 xa2 xa3 ya
    have hx1 : Ext w0 w1 := Ext.trans (Ext.auto) hy
    have hs1 := hx1.size
    have he1 : Ext w w1 := he0.trans hx1
    have hBa_1 : Bx w1 (w.heap.size) [.int .i64 a.kind, .int .i64 a.k, (.slice Aa1 a.x.monos.length ca1), (.slice Aa2 a.y.monos.length ca2)] := hx1.bx hBa_0 (by omega)
    have hFa_1 : ∀ oo, w1.frozen? ⟨w.heap.size, oo, none⟩ = false := fun oo => (hx1.frozen (by omega)).trans (hFa_0 oo)
    clear hBa_0 hFa_0
    clear hy
    have ya : w.heap.size < w1.heap.size := by omega
    have xa0 := hBa_1 0 _ rfl
    have xa1 := hBa_1 1 _ rfl
    have xa2 := hBa_1 2 _ rfl
    have xa3 := hBa_1 3 _ rfl
    simp only [r1]
    go_wp2_with fail
    refine (implPolOk_any a.y _ _ (ha2.ext (Ext.trans he1 Ext.auto))).mono ?_
    rintro e w2 ⟨rfl, hy⟩
    clear xa0 xa1 xa2 xa3 ya
    have hx2 : Ext w1 w2 := Ext.trans (Ext.auto) hy
    have hs2 := hx2.size
    have he2 : Ext w w2 := he1.trans hx2
    have hBa_2 : Bx w2 (w.heap.size) [.int .i64 a.kind, .int .i64 a.k, (.slice Aa1 a.x.monos.length ca1), (.slice Aa2 a.y.monos.length ca2)] := hx2.bx hBa_1 (by omega)
    have hFa_2 : ∀ oo, w2.frozen? ⟨w.heap.size, oo, none⟩ = false := fun oo => (hx2.frozen (by omega)).trans (hFa_1 oo)
    clear hBa_1 hFa_1
    clear hy
    have ya : w.heap.size < w2.heap.size := by omega
    have xa0 := hBa_2 0 _ rfl
    have xa1 := hBa_2 1 _ rfl
    have xa2 := hBa_2 2 _ rfl
    have xa3 := hBa_2 3 _ rfl
    simp only [r2]
    go_wp2
    go_ret
    exact ⟨by rw [HV.out]; rfl, Ext.hold he2⟩
  cases r3 : polUnderB a.x n
  · 
    have HV := hide (show atomOkB a n = false by rw [HV0.out, r0, r1, r2, r3]; rfl)
    go_enter Try.func33, Try.ntmps33
    go_upto_region 1 with fail
    have he0 : Ext w (w.alloc (Obj.cells #[.int .i64 a.kind, .int .i64 a.k, (.slice Aa1 a.x.monos.length ca1), (.slice Aa2 a.y.monos.length ca2)] 30)) := (Ext.auto)
    have hs0 : w.heap.size + 1 ≤ ((w.alloc (Obj.cells #[.int .i64 a.kind, .int .i64 a.k, (.slice Aa1 a.x.monos.length ca1), (.slice Aa2 a.y.monos.length ca2)] 30))).heap.size := by simp
    have hq0 := hide (show ((w.alloc (Obj.cells #[.int .i64 a.kind, .int .i64 a.k, (.slice Aa1 a.x.monos.length ca1), (.slice Aa2 a.y.monos.length ca2)] 30))).heap.size = w.heap.size + 1 by simp)
    have hBa_0 : Bx (w.alloc (Obj.cells #[.int .i64 a.kind, .int .i64 a.k, (.slice Aa1 a.x.monos.length ca1), (.slice Aa2 a.y.monos.length ca2)] 30)) (w.heap.size) [.int .i64 a.kind, .int .i64 a.k, (.slice Aa1 a.x.monos.length ca1), (.slice Aa2 a.y.monos.length ca2)] := (by have := (Bx.new w #[.int .i64 a.kind, .int .i64 a.k, (.slice Aa1 a.x.monos.length ca1), (.slice Aa2 a.y.monos.length ca2)] 30); simpa using this)
    have hFa_0 : ∀ oo, ((w.alloc (Obj.cells #[.int .i64 a.kind, .int .i64 a.k, (.slice Aa1 a.x.monos.length ca1), (.slice Aa2 a.y.monos.length ca2)] 30))).frozen? ⟨w.heap.size, oo, none⟩ = false := fun oo => by simp
    generalize (w.alloc (Obj.cells #[.int .i64 a.kind, .int .i64 a.k, (.slice Aa1 a.x.monos.length ca1), (.slice Aa2 a.y.monos.length ca2)] 30)) = w0 at *
    have ya : w.heap.size < w0.heap.size := by omega
    have xa0 := hBa_0 0 _ rfl
    have xa1 := hBa_0 1 _ rfl
    have xa2 := hBa_0 2 _ rfl
    have xa3 := hBa_0 3 _ rfl
    go_wp2_with (go_at_call 60; refine (isOp_any _ _).mono ?_; rintro e w' ⟨rfl, rfl⟩)
    refine (implPolOk_any a.x _ _ (ha1.ext (Ext.trans he0 Ext.auto))).mono ?_
    rintro e w1 ⟨rfl, hy⟩
    clear xa0 xa1 xa2 xa3 ya
    have hx1 : Ext w0 w1 := Ext.trans (Ext.auto) hy
    have hs1 := hx1.size
    have he1 : Ext w w1 := he0.trans hx1
    have hBa_1 : Bx w1 (w.heap.size) [.int .i64 a.kind, .int .i64 a.k, (.slice Aa1 a.x.monos.length ca1), (.slice Aa2 a.y.monos.length ca2)] := hx1.bx hBa_0 (by omega)
    have hFa_1 : ∀ oo, w1.frozen? ⟨w.heap.size, oo, none⟩ = false := fun oo => (hx1.frozen (by omega)).trans (hFa_0 oo)
    clear hBa_0 hFa_0
    clear hy
    have ya : w.heap.size < w1.heap.size := by omega
    have xa0 := hBa_1 0 _ rfl
    have xa1 := hBa_1 1 _ rfl
    have xa2 := hBa_1 2 _ rfl
    have xa3 := hBa_1 3 _ rfl
    simp only [r1]
    go_wp2_with fail
    refine (implPolOk_any a.y _ _ (ha2.ext (Ext.trans he1 Ext.auto))).mono ?_
    rintro e w2 ⟨rfl, hy⟩
    clear xa0 xa1 xa2 xa3 ya
    have hx2 : Ext w1 w2 := Ext.trans (Ext.auto) hy
    have hs2 := hx2.size
    have he2 : Ext w w2 := he1.trans hx2
    have hBa_2 : Bx w2 (w.heap.size) [.int .i64 a.kind, .int .i64 a.k, (.slice Aa1 a.x.monos.length ca1), (.slice Aa2 a.y.monos.length ca2)] := hx2.bx hBa_1 (by omega)
    have hFa_2 : ∀ oo, w2.frozen? ⟨w.heap.size, oo, none⟩ = false := fun oo => (hx2.frozen (by omega)).trans (hFa_1 oo)
    clear hBa_1 hFa_1
    clear hy
    have ya : w.heap.size < w2.heap.size := by omega
    have xa0 := hBa_2 0 _ rfl
    have xa1 := hBa_2 1 _ rfl
    have xa2 := hBa_2 2 _ rfl
    have xa3 := hBa_2 3 _ rfl
    simp only [r2]
    go_wp2_with fail
    refine (implPolUnder_any a.x n _ _ (ha1.ext (Ext.trans he2 Ext.auto))).mono ?_
    rintro e w3 ⟨rfl, hy⟩
    clear xa0 xa1 xa2 xa3 ya
    have hx3 : Ext w2 w3 := Ext.trans (Ext.auto) hy
    have hs3 := hx3.size
    have he3 : Ext w w3 := he2.trans hx3
    have hBa_3 : Bx w3 (w.heap.size) [.int .i64 a.kind, .int .i64 a.k, (.slice Aa1 a.x.monos.length ca1), (.slice Aa2 a.y.monos.length ca2)] := hx3.bx hBa_2 (by omega)
    have hFa_3 : ∀ oo, w3.frozen? ⟨w.heap.size, oo, none⟩ = false := fun oo => (hx3.frozen (by omega)).trans (hFa_2 oo)
    clear hBa_2 hFa_2
    clear hy
    have ya : w.heap.size < w3.heap.size := by omega
    have xa0 := hBa_3 0 _ rfl
    have xa1 := hBa_3 1 _ rfl
    have xa2 := hBa_3 2 _ rfl
    have xa3 := hBa_3 3 _ rfl
    simp only [r3]
    go_wp2
    go_ret
    exact ⟨by rw [HV.out]; rfl, Ext.hold he3⟩
  cases r4 : polUnderB a.y n
  · 
    have HV := hide (show atomOkB a n = false by rw [HV0.out, r0, r1, r2, r3, r4]; rfl)
    go_enter Try.func33, Try.ntmps33
    go_upto_region 1 with fail
    have he0 : Ext w (w.alloc (Obj.cells #[.int .i64 a.kind, .int .i64 a.k, (.slice Aa1 a.x.monos.length ca1), (.slice Aa2 a.y.monos.length ca2)] 30)) := (Ext.auto)
    have hs0 : w.heap.size + 1 ≤ ((w.alloc (Obj.cells #[.int .i64 a.kind, .int .i64 a.k, (.slice Aa1 a.x.monos.length ca1), (.slice Aa2 a.y.monos.length ca2)] 30))).heap.size := by simp
    have hq0 := hide (show ((w.alloc (Obj.cells #[.int .i64 a.kind, .int .i64 a.k, (.slice Aa1 a.x.monos.length ca1), (.slice Aa2 a.y.monos.length ca2)] 30))).heap.size = w.heap.size + 1 by simp)
    have hBa_0 : Bx (w.alloc (Obj.cells #[.int .i64 a.kind, .int .i64 a.k, (.slice Aa1 a.x.monos.length ca1), (.slice Aa2 a.y.monos.length ca2)] 30)) (w.heap.size) [.int .i64 a.kind, .int .i64 a.k, (.slice Aa1 a.x.monos.length ca1), (.slice Aa2 a.y.monos.length ca2)] := (by have := (Bx.new w #[.int .i64 a.kind, .int .i64 a.k, (.slice Aa1 a.x.monos.length ca1), (.slice Aa2 a.y.monos.length ca2)] 30); simpa using this)
    have hFa_0 : ∀ oo, ((w.alloc (Obj.cells #[.int .i64 a.kind, .int .i64 a.k, (.slice Aa1 a.x.monos.length ca1), (.slice Aa2 a.y.monos.length ca2)] 30))).frozen? ⟨w.heap.size, oo, none⟩ = false := fun oo => by simp
    generalize (w.alloc (Obj.cells #[.int .i64 a.kind, .int .i64 a.k, (.slice Aa1 a.x.monos.length ca1), (.slice Aa2 a.y.monos.length ca2)] 30)) = w0 at *
    have ya : w.heap.size < w0.heap.size := by omega
    have xa0 := hBa_0 0 _ rfl
    have xa1 := hBa_0 1 _ rfl
    have xa2 := hBa_0 2 _ rfl
    have xa3 := hBa_0 3 _ rfl
    go_wp2_with (go_at_call 60; refine (isOp_any _ _).mono ?_; rintro e w' ⟨rfl, rfl⟩)
    refine (implPolOk_any a.x _ _ (ha1.ext (Ext.trans he0 Ext.auto))).mono ?_
    rintro e w1 ⟨rfl, hy⟩
    clear xa0 xa1 xa2 xa3 ya
    have hx1 : Ext w0 w1 := Ext.trans (Ext.auto) hy
    have hs1 := hx1.size
    have he1 : Ext w w1 := he0.trans hx1
    have hBa_1 : Bx w1 (w.heap.size) [.int .i64 a.kind, .int .i64 a.k, (.slice Aa1 a.x.monos.length ca1), (.slice Aa2 a.y.monos.length ca2)] := hx1.bx hBa_0 (by omega)
    have hFa_1 : ∀ oo, w1.frozen? ⟨w.heap.size, oo, none⟩ = false := fun oo => (hx1.frozen (by omega)).trans (hFa_0 oo)
    clear hBa_0 hFa_0
    clear hy
    have ya : w.heap.size < w1.heap.size := by omega
    have xa0 := hBa_1 0 _ rfl
    have xa1 := hBa_1 1 _ rfl
    have xa2 := hBa_1 2 _ rfl
    have xa3 := hBa_1 3 _ rfl
    simp only [r1]
    go_wp2_with fail
    refine (implPolOk_any a.y _ _ (ha2.ext (Ext.trans he1 Ext.auto))).mono ?_
    rintro e w2 ⟨rfl, hy⟩
    clear xa0 xa1 xa2 xa3 ya
    have hx2 : Ext w1 w2 := Ext.trans (Ext.auto) hy
    have hs2 := hx2.size
    have he2 : Ext w w2 := he1.trans hx2
    have hBa_2 : Bx w2 (w.heap.size) [.int .i64 a.kind, .int .i64 a.k, (.slice Aa1 a.x.monos.length ca1), (.slice Aa2 a.y.monos.length ca2)] := hx2.bx hBa_1 (by omega)
    have hFa_2 : ∀ oo, w2.frozen? ⟨w.heap.size, oo, none⟩ = false := fun oo => (hx2.frozen (by omega)).trans (hFa_1 oo)
    clear hBa_1 hFa_1
    clear hy
    have ya : w.heap.size < w2.heap.size := by omega
    have xa0 := hBa_2 0 _ rfl
    have xa1 := hBa_2 1 _ rfl
    have xa2 := hBa_2 2 _ rfl
    have xa3 := hBa_2 3 _ rfl
    simp only [r2]
    go_wp2_with fail
    refine (implPolUnder_any a.x n _ _ (ha1.ext (Ext.trans he2 Ext.auto))).mono ?_
    rintro e w3 ⟨rfl, hy⟩
    clear xa0 xa1 xa2 xa3 ya
    have hx3 : Ext w2 w3 := Ext.trans (Ext.auto) hy
    have hs3 := hx3.size
    have he3 : Ext w w3 := he2.trans hx3
    have hBa_3 : Bx w3 (w.heap.size) [.int .i64 a.kind, .int .i64 a.k, (.slice Aa1 a.x.monos.length ca1), (.slice Aa2 a.y.monos.length ca2)] := hx3.bx hBa_2 (by omega)
    have hFa_3 : ∀ oo, w3.frozen? ⟨w.heap.size, oo, none⟩ = false := fun oo => (hx3.frozen (by omega)).trans (hFa_2 oo)
    clear hBa_2 hFa_2
    clear hy
    have ya : w.heap.size < w3.heap.size := by omega
    have xa0 := hBa_3 0 _ rfl
    have xa1 := hBa_3 1 _ rfl
    have xa2 := hBa_3 2 _ rfl
    have xa3 := hBa_3 3 _ rfl
    simp only [r3]
    go_wp2_with fail
    refine (implPolUnder_any a.y n _ _ (ha2.ext (Ext.trans he3 Ext.auto))).mono ?_
    rintro e w4 ⟨rfl, hy⟩
    clear xa0 xa1 xa2 xa3 ya
    have hx4 : Ext w3 w4 := Ext.trans (Ext.auto) hy
    have hs4 := hx4.size
    have he4 : Ext w w4 := he3.trans hx4
    have hBa_4 : Bx w4 (w.heap.size) [.int .i64 a.kind, .int .i64 a.k, (.slice Aa1 a.x.monos.length ca1), (.slice Aa2 a.y.monos.length ca2)] := hx4.bx hBa_3 (by omega)
    have hFa_4 : ∀ oo, w4.frozen? ⟨w.heap.size, oo, none⟩ = false := fun oo => (hx4.frozen (by omega)).trans (hFa_3 oo)
    clear hBa_3 hFa_3
    clear hy
    have ya : w.heap.size < w4.heap.size := by omega
    have xa0 := hBa_4 0 _ rfl
    have xa1 := hBa_4 1 _ rfl
    have xa2 := hBa_4 2 _ rfl
    have xa3 := hBa_4 3 _ rfl
    simp only [r4]
    go_wp2
    go_ret
    exact ⟨by rw [HV.out]; rfl, Ext.hold he4⟩
  have HV := hide (show atomOkB a n = true by rw [HV0.out, r0, r1, r2, r3, r4]; rfl)
  go_enter Try.func33, Try.ntmps33
  go_upto_region 1 with fail
  have he0 : Ext w (w.alloc (Obj.cells #[.int .i64 a.kind, .int .i64 a.k, (.slice Aa1 a.x.monos.length ca1), (.slice Aa2 a.y.monos.length ca2)] 30)) := (Ext.auto)
  have hs0 : w.heap.size + 1 ≤ ((w.alloc (Obj.cells #[.int .i64 a.kind, .int .i64 a.k, (.slice Aa1 a.x.monos.length ca1), (.slice Aa2 a.y.monos.length ca2)] 30))).heap.size := by simp
  have hq0 := hide (show ((w.alloc (Obj.cells #[.int .i64 a.kind, .int .i64 a.k, (.slice Aa1 a.x.monos.length ca1), (.slice Aa2 a.y.monos.length ca2)] 30))).heap.size = w.heap.size + 1 by simp)
  have hBa_0 : Bx (w.alloc (Obj.cells #[.int .i64 a.kind, .int .i64 a.k, (.slice Aa1 a.x.monos.length ca1), (.slice Aa2 a.y.monos.length ca2)] 30)) (w.heap.size) [.int .i64 a.kind, .int .i64 a.k, (.slice Aa1 a.x.monos.length ca1), (.slice Aa2 a.y.monos.length ca2)] := (by have := (Bx.new w #[.int .i64 a.kind, .int .i64 a.k, (.slice Aa1 a.x.monos.length ca1), (.slice Aa2 a.y.monos.length ca2)] 30); simpa using this)
  have hFa_0 : ∀ oo, ((w.alloc (Obj.cells #[.int .i64 a.kind, .int .i64 a.k, (.slice Aa1 a.x.monos.length ca1), (.slice Aa2 a.y.monos.length ca2)] 30))).frozen? ⟨w.heap.size, oo, none⟩ = false := fun oo => by simp
  generalize (w.alloc (Obj.cells #[.int .i64 a.kind, .int .i64 a.k, (.slice Aa1 a.x.monos.length ca1), (.slice Aa2 a.y.monos.length ca2)] 30)) = w0 at *
  have ya : w.heap.size < w0.heap.size := by omega
  have xa0 := hBa_0 0 _ rfl
  have xa1 := hBa_0 1 _ rfl
  have xa2 := hBa_0 2 _ rfl
  have xa3 := hBa_0 3 _ rfl
  go_wp2_with (go_at_call 60; refine (isOp_any _ _).mono ?_; rintro e w' ⟨rfl, rfl⟩)
  refine (implPolOk_any a.x _ _ (ha1.ext (Ext.trans he0 Ext.auto))).mono ?_
  rintro e w1 ⟨rfl, hy⟩
  clear xa0 xa1 xa2 xa3 ya
  have hx1 : Ext w0 w1 := Ext.trans (Ext.auto) hy
  have hs1 := hx1.size
  have he1 : Ext w w1 := he0.trans hx1
  have hBa_1 : Bx w1 (w.heap.size) [.int .i64 a.kind, .int .i64 a.k, (.slice Aa1 a.x.monos.length ca1), (.slice Aa2 a.y.monos.length ca2)] := hx1.bx hBa_0 (by omega)
  have hFa_1 : ∀ oo, w1.frozen? ⟨w.heap.size, oo, none⟩ = false := fun oo => (hx1.frozen (by omega)).trans (hFa_0 oo)
  clear hBa_0 hFa_0
  clear hy
  have ya : w.heap.size < w1.heap.size := by omega
  have xa0 := hBa_1 0 _ rfl
  have xa1 := hBa_1 1 _ rfl
  have xa2 := hBa_1 2 _ rfl
  have xa3 := hBa_1 3 _ rfl
  simp only [r1]
  go_wp2_with fail
  refine (implPolOk_any a.y _ _ (ha2.ext (Ext.trans he1 Ext.auto))).mono ?_
  rintro e w2 ⟨rfl, hy⟩
  clear xa0 xa1 xa2 xa3 ya
  have hx2 : Ext w1 w2 := Ext.trans (Ext.auto) hy
  have hs2 := hx2.size
  have he2 : Ext w w2 := he1.trans hx2
  have hBa_2 : Bx w2 (w.heap.size) [.int .i64 a.kind, .int .i64 a.k, (.slice Aa1 a.x.monos.length ca1), (.slice Aa2 a.y.monos.length ca2)] := hx2.bx hBa_1 (by omega)
  have hFa_2 : ∀ oo, w2.frozen? ⟨w.heap.size, oo, none⟩ = false := fun oo => (hx2.frozen (by omega)).trans (hFa_1 oo)
  clear hBa_1 hFa_1
  clear hy
  have ya : w.heap.size < w2.heap.size := by omega
  have xa0 := hBa_2 0 _ rfl
  have xa1 := hBa_2 1 _ rfl
  have xa2 := hBa_2 2 _ rfl
  have xa3 := hBa_2 3 _ rfl
  simp only [r2]
  go_wp2_with fail
  refine (implPolUnder_any a.x n _ _ (ha1.ext (Ext.trans he2 Ext.auto))).mono ?_
  rintro e w3 ⟨rfl, hy⟩
  clear xa0 xa1 xa2 xa3 ya
  have hx3 : Ext w2 w3 := Ext.trans (Ext.auto) hy
  have hs3 := hx3.size
  have he3 : Ext w w3 := he2.trans hx3
  have hBa_3 : Bx w3 (w.heap.size) [.int .i64 a.kind, .int .i64 a.k, (.slice Aa1 a.x.monos.length ca1), (.slice Aa2 a.y.monos.length ca2)] := hx3.bx hBa_2 (by omega)
  have hFa_3 : ∀ oo, w3.frozen? ⟨w.heap.size, oo, none⟩ = false := fun oo => (hx3.frozen (by omega)).trans (hFa_2 oo)
  clear hBa_2 hFa_2
  clear hy
  have ya : w.heap.size < w3.heap.size := by omega
  have xa0 := hBa_3 0 _ rfl
  have xa1 := hBa_3 1 _ rfl
  have xa2 := hBa_3 2 _ rfl
  have xa3 := hBa_3 3 _ rfl
  simp only [r3]
  go_wp2_with fail
  refine (implPolUnder_any a.y n _ _ (ha2.ext (Ext.trans he3 Ext.auto))).mono ?_
  rintro e w4 ⟨rfl, hy⟩
  clear xa0 xa1 xa2 xa3 ya
  have hx4 : Ext w3 w4 := Ext.trans (Ext.auto) hy
  have hs4 := hx4.size
  have he4 : Ext w w4 := he3.trans hx4
  have hBa_4 : Bx w4 (w.heap.size) [.int .i64 a.kind, .int .i64 a.k, (.slice Aa1 a.x.monos.length ca1), (.slice Aa2 a.y.monos.length ca2)] := hx4.bx hBa_3 (by omega)
  have hFa_4 : ∀ oo, w4.frozen? ⟨w.heap.size, oo, none⟩ = false := fun oo => (hx4.frozen (by omega)).trans (hFa_3 oo)
  clear hBa_3 hFa_3
  clear hy
  have ya : w.heap.size < w4.heap.size := by omega
  have xa0 := hBa_4 0 _ rfl
  have xa1 := hBa_4 1 _ rfl
  have xa2 := hBa_4 2 _ rfl
  have xa3 := hBa_4 3 _ rfl
  simp only [r4]
  go_wp2
  go_ret
  exact ⟨by rw [HV.out]; rfl, Ext.hold he4⟩

set_option maxHeartbeats 16000000 in
theorem implSameAtom_any (a : TabAtom) (b : TabAtom) (va1 va2 vb1 vb2 : Value) (w : World) (ha1 : Sl w (Old w) va1 a.x.monos) (ha2 : Sl w (Old w) va2 a.y.monos) (hb1 : Sl w (Old w) vb1 b.x.monos) (hb2 : Sl w (Old w) vb2 b.y.monos)  :
    Calls Try.prog 65 #[.agg #[.int .i64 a.kind, .int .i64 a.k, va1, va2], .agg #[.int .i64 b.kind, .int .i64 b.k, vb1, vb2]] w fun e w' => e = .returned (.bool (decide (a = b))) ∧ Ext w w' := by
  obtain ⟨Aa1, ca1, rfl, hla1, hma1⟩ := ha1.form
  obtain ⟨Aa2, ca2, rfl, hla2, hma2⟩ := ha2.form
  obtain ⟨Ab1, cb1, rfl, hlb1, hmb1⟩ := hb1.form
  obtain ⟨Ab2, cb2, rfl, hlb2, hmb2⟩ := hb2.form
  have HD := hide (show decide (a = b) = ((a.kind == b.kind) && (a.k == b.k) && decide (a.x = b.x) && decide (a.y = b.y)) by
    cases a; cases b
    rw [Bool.eq_iff_iff]
    simp
    constructor
    · rintro ⟨h1, h2, h3, h4⟩; exact ⟨⟨⟨h1, h2⟩, h3⟩, h4⟩
    · rintro ⟨⟨⟨h1, h2⟩, h3⟩, h4⟩; exact ⟨h1, h2, h3, h4⟩)
  cases r0 : (a.kind == b.kind)
  · 
    have HV := hide (show decide (a = b) = false by rw [HD.out, r0]; rfl)
    go_enter Try.func65, Try.ntmps65
    go_upto_region 1 with fail
    have he0 : Ext w ((w.alloc (Obj.cells #[.int .i64 a.kind, .int .i64 a.k, (.slice Aa1 a.x.monos.length ca1), (.slice Aa2 a.y.monos.length ca2)] 30)).alloc (Obj.cells #[.int .i64 b.kind, .int .i64 b.k, (.slice Ab1 b.x.monos.length cb1), (.slice Ab2 b.y.monos.length cb2)] 30)) := (Ext.auto)
    have hs0 : w.heap.size + 2 ≤ (((w.alloc (Obj.cells #[.int .i64 a.kind, .int .i64 a.k, (.slice Aa1 a.x.monos.length ca1), (.slice Aa2 a.y.monos.length ca2)] 30)).alloc (Obj.cells #[.int .i64 b.kind, .int .i64 b.k, (.slice Ab1 b.x.monos.length cb1), (.slice Ab2 b.y.monos.length cb2)] 30))).heap.size := by simp
    have hq0 := hide (show (((w.alloc (Obj.cells #[.int .i64 a.kind, .int .i64 a.k, (.slice Aa1 a.x.monos.length ca1), (.slice Aa2 a.y.monos.length ca2)] 30)).alloc (Obj.cells #[.int .i64 b.kind, .int .i64 b.k, (.slice Ab1 b.x.monos.length cb1), (.slice Ab2 b.y.monos.length cb2)] 30))).heap.size = w.heap.size + 2 by simp)
    have hBa_0 : Bx ((w.alloc (Obj.cells #[.int .i64 a.kind, .int .i64 a.k, (.slice Aa1 a.x.monos.length ca1), (.slice Aa2 a.y.monos.length ca2)] 30)).alloc (Obj.cells #[.int .i64 b.kind, .int .i64 b.k, (.slice Ab1 b.x.monos.length cb1), (.slice Ab2 b.y.monos.length cb2)] 30)) (w.heap.size) [.int .i64 a.kind, .int .i64 a.k, (.slice Aa1 a.x.monos.length ca1), (.slice Aa2 a.y.monos.length ca2)] := (by have := (Bx.alloc (Bx.new w #[.int .i64 a.kind, .int .i64 a.k, (.slice Aa1 a.x.monos.length ca1), (.slice Aa2 a.y.monos.length ca2)] 30) (by simp) #[.int .i64 b.kind, .int .i64 b.k, (.slice Ab1 b.x.monos.length cb1), (.slice Ab2 b.y.monos.length cb2)] 30); simpa using this)
    have hFa_0 : ∀ oo, (((w.alloc (Obj.cells #[.int .i64 a.kind, .int .i64 a.k, (.slice Aa1 a.x.monos.length ca1), (.slice Aa2 a.y.monos.length ca2)] 30)).alloc (Obj.cells #[.int .i64 b.kind, .int .i64 b.k, (.slice Ab1 b.x.monos.length cb1), (.slice Ab2 b.y.monos.length cb2)] 30))).frozen? ⟨w.heap.size, oo, none⟩ = false := fun oo => by simp
    have hBb_0 : Bx ((w.alloc (Obj.cells #[.int .i64 a.kind, .int .i64 a.k, (.slice Aa1 a.x.monos.length ca1), (.slice Aa2 a.y.monos.length ca2)] 30)).alloc (Obj.cells #[.int .i64 b.kind, .int .i64 b.k, (.slice Ab1 b.x.monos.length cb1), (.slice Ab2 b.y.monos.length cb2)] 30)) (w.heap.size + 1) [.int .i64 b.kind, .int .i64 b.k, (.slice Ab1 b.x.monos.length cb1), (.slice Ab2 b.y.monos.length cb2)] := (by have := (Bx.new (w.alloc (Obj.cells #[.int .i64 a.kind, .int .i64 a.k, (.slice Aa1 a.x.monos.length ca1), (.slice Aa2 a.y.monos.length ca2)] 30)) #[.int .i64 b.kind, .int .i64 b.k, (.slice Ab1 b.x.monos.length cb1), (.slice Ab2 b.y.monos.length cb2)] 30); simpa using this)
    have hFb_0 : ∀ oo, (((w.alloc (Obj.cells #[.int .i64 a.kind, .int .i64 a.k, (.slice Aa1 a.x.monos.length ca1), (.slice Aa2 a.y.monos.length ca2)] 30)).alloc (Obj.cells #[.int .i64 b.kind, .int .i64 b.k, (.slice Ab1 b.x.monos.length cb1), (.slice Ab2 b.y.monos.length cb2)] 30))).frozen? ⟨w.heap.size + 1, oo, none⟩ = false := fun oo => by simp
    generalize ((w.alloc (Obj.cells #[.int .i64 a.kind, .int .i64 a.k, (.slice Aa1 a.x.monos.length ca1), (.slice Aa2 a.y.monos.length ca2)] 30)).alloc (Obj.cells #[.int .i64 b.kind, .int .i64 b.k, (.slice Ab1 b.x.monos.length cb1), (.slice Ab2 b.y.monos.length cb2)] 30)) = w0 at *
    have ya : w.heap.size < w0.heap.size := by omega
    have xa0 := hBa_0 0 _ rfl
    have xa1 := hBa_0 1 _ rfl
    have xa2 := hBa_0 2 _ rfl
    have xa3 := hBa_0 3 _ rfl
    have yb : w.heap.size + 1 < w0.heap.size := by omega
    have xb0 := hBb_0 0 _ rfl
    have xb1 := hBb_0 1 _ rfl
    have xb2 := hBb_0 2 _ rfl
    have xb3 := hBb_0 3 _ rfl
    go_wp2
    go_ret
    exact ⟨by rw [HV.out]; rfl, Ext.hold he0⟩
  cases r1 : (a.k == b.k)
  · 
    have HV := hide (show decide (a = b) = false by rw [HD.out, r0, r1]; rfl)
    go_enter Try.func65, Try.ntmps65
    go_upto_region 1 with fail
    have he0 : Ext w ((w.alloc (Obj.cells #[.int .i64 a.kind, .int .i64 a.k, (.slice Aa1 a.x.monos.length ca1), (.slice Aa2 a.y.monos.length ca2)] 30)).alloc (Obj.cells #[.int .i64 b.kind, .int .i64 b.k, (.slice Ab1 b.x.monos.length cb1), (.slice Ab2 b.y.monos.length cb2)] 30)) := (Ext.auto)
    have hs0 : w.heap.size + 2 ≤ (((w.alloc (Obj.cells #[.int .i64 a.kind, .int .i64 a.k, (.slice Aa1 a.x.monos.length ca1), (.slice Aa2 a.y.monos.length ca2)] 30)).alloc (Obj.cells #[.int .i64 b.kind, .int .i64 b.k, (.slice Ab1 b.x.monos.length cb1), (.slice Ab2 b.y.monos.length cb2)] 30))).heap.size := by simp
    have hq0 := hide (show (((w.alloc (Obj.cells #[.int .i64 a.kind, .int .i64 a.k, (.slice Aa1 a.x.monos.length ca1), (.slice Aa2 a.y.monos.length ca2)] 30)).alloc (Obj.cells #[.int .i64 b.kind, .int .i64 b.k, (.slice Ab1 b.x.monos.length cb1), (.slice Ab2 b.y.monos.length cb2)] 30))).heap.size = w.heap.size + 2 by simp)
    have hBa_0 : Bx ((w.alloc (Obj.cells #[.int .i64 a.kind, .int .i64 a.k, (.slice Aa1 a.x.monos.length ca1), (.slice Aa2 a.y.monos.length ca2)] 30)).alloc (Obj.cells #[.int .i64 b.kind, .int .i64 b.k, (.slice Ab1 b.x.monos.length cb1), (.slice Ab2 b.y.monos.length cb2)] 30)) (w.heap.size) [.int .i64 a.kind, .int .i64 a.k, (.slice Aa1 a.x.monos.length ca1), (.slice Aa2 a.y.monos.length ca2)] := (by have := (Bx.alloc (Bx.new w #[.int .i64 a.kind, .int .i64 a.k, (.slice Aa1 a.x.monos.length ca1), (.slice Aa2 a.y.monos.length ca2)] 30) (by simp) #[.int .i64 b.kind, .int .i64 b.k, (.slice Ab1 b.x.monos.length cb1), (.slice Ab2 b.y.monos.length cb2)] 30); simpa using this)
    have hFa_0 : ∀ oo, (((w.alloc (Obj.cells #[.int .i64 a.kind, .int .i64 a.k, (.slice Aa1 a.x.monos.length ca1), (.slice Aa2 a.y.monos.length ca2)] 30)).alloc (Obj.cells #[.int .i64 b.kind, .int .i64 b.k, (.slice Ab1 b.x.monos.length cb1), (.slice Ab2 b.y.monos.length cb2)] 30))).frozen? ⟨w.heap.size, oo, none⟩ = false := fun oo => by simp
    have hBb_0 : Bx ((w.alloc (Obj.cells #[.int .i64 a.kind, .int .i64 a.k, (.slice Aa1 a.x.monos.length ca1), (.slice Aa2 a.y.monos.length ca2)] 30)).alloc (Obj.cells #[.int .i64 b.kind, .int .i64 b.k, (.slice Ab1 b.x.monos.length cb1), (.slice Ab2 b.y.monos.length cb2)] 30)) (w.heap.size + 1) [.int .i64 b.kind, .int .i64 b.k, (.slice Ab1 b.x.monos.length cb1), (.slice Ab2 b.y.monos.length cb2)] := (by have := (Bx.new (w.alloc (Obj.cells #[.int .i64 a.kind, .int .i64 a.k, (.slice Aa1 a.x.monos.length ca1), (.slice Aa2 a.y.monos.length ca2)] 30)) #[.int .i64 b.kind, .int .i64 b.k, (.slice Ab1 b.x.monos.length cb1), (.slice Ab2 b.y.monos.length cb2)] 30); simpa using this)
    have hFb_0 : ∀ oo, (((w.alloc (Obj.cells #[.int .i64 a.kind, .int .i64 a.k, (.slice Aa1 a.x.monos.length ca1), (.slice Aa2 a.y.monos.length ca2)] 30)).alloc (Obj.cells #[.int .i64 b.kind, .int .i64 b.k, (.slice Ab1 b.x.monos.length cb1), (.slice Ab2 b.y.monos.length cb2)] 30))).frozen? ⟨w.heap.size + 1, oo, none⟩ = false := fun oo => by simp
    generalize ((w.alloc (Obj.cells #[.int .i64 a.kind, .int .i64 a.k, (.slice Aa1 a.x.monos.length ca1), (.slice Aa2 a.y.monos.length ca2)] 30)).alloc (Obj.cells #[.int .i64 b.kind, .int .i64 b.k, (.slice Ab1 b.x.monos.length cb1), (.slice Ab2 b.y.monos.length cb2)] 30)) = w0 at *
    have ya : w.heap.size < w0.heap.size := by omega
    have xa0 := hBa_0 0 _ rfl
    have xa1 := hBa_0 1 _ rfl
    have xa2 := hBa_0 2 _ rfl
    have xa3 := hBa_0 3 _ rfl
    have yb : w.heap.size + 1 < w0.heap.size := by omega
    have xb0 := hBb_0 0 _ rfl
    have xb1 := hBb_0 1 _ rfl
    have xb2 := hBb_0 2 _ rfl
    have xb3 := hBb_0 3 _ rfl
    go_wp2
    go_ret
    exact ⟨by rw [HV.out]; rfl, Ext.hold he0⟩
  cases r2 : decide (a.x = b.x)
  · 
    have HV := hide (show decide (a = b) = false by rw [HD.out, r0, r1, r2]; rfl)
    go_enter Try.func65, Try.ntmps65
    go_upto_region 1 with fail
    have he0 : Ext w ((w.alloc (Obj.cells #[.int .i64 a.kind, .int .i64 a.k, (.slice Aa1 a.x.monos.length ca1), (.slice Aa2 a.y.monos.length ca2)] 30)).alloc (Obj.cells #[.int .i64 b.kind, .int .i64 b.k, (.slice Ab1 b.x.monos.length cb1), (.slice Ab2 b.y.monos.length cb2)] 30)) := (Ext.auto)
    have hs0 : w.heap.size + 2 ≤ (((w.alloc (Obj.cells #[.int .i64 a.kind, .int .i64 a.k, (.slice Aa1 a.x.monos.length ca1), (.slice Aa2 a.y.monos.length ca2)] 30)).alloc (Obj.cells #[.int .i64 b.kind, .int .i64 b.k, (.slice Ab1 b.x.monos.length cb1), (.slice Ab2 b.y.monos.length cb2)] 30))).heap.size := by simp
    have hq0 := hide (show (((w.alloc (Obj.cells #[.int .i64 a.kind, .int .i64 a.k, (.slice Aa1 a.x.monos.length ca1), (.slice Aa2 a.y.monos.length ca2)] 30)).alloc (Obj.cells #[.int .i64 b.kind, .int .i64 b.k, (.slice Ab1 b.x.monos.length cb1), (.slice Ab2 b.y.monos.length cb2)] 30))).heap.size = w.heap.size + 2 by simp)
    have hBa_0 : Bx ((w.alloc (Obj.cells #[.int .i64 a.kind, .int .i64 a.k, (.slice Aa1 a.x.monos.length ca1), (.slice Aa2 a.y.monos.length ca2)] 30)).alloc (Obj.cells #[.int .i64 b.kind, .int .i64 b.k, (.slice Ab1 b.x.monos.length cb1), (.slice Ab2 b.y.monos.length cb2)] 30)) (w.heap.size) [.int .i64 a.kind, .int .i64 a.k, (.slice Aa1 a.x.monos.length ca1), (.slice Aa2 a.y.monos.length ca2)] := (by have := (Bx.alloc (Bx.new w #[.int .i64 a.kind, .int .i64 a.k, (.slice Aa1 a.x.monos.length ca1), (.slice Aa2 a.y.monos.length ca2)] 30) (by simp) #[.int .i64 b.kind, .int .i64 b.k, (.slice Ab1 b.x.monos.length cb1), (.slice Ab2 b.y.monos.length cb2)] 30); simpa using this)
    have hFa_0 : ∀ oo, (((w.alloc (Obj.cells #[.int .i64 a.kind, .int .i64 a.k, (.slice Aa1 a.x.monos.length ca1), (.slice Aa2 a.y.monos.length ca2)] 30)).alloc (Obj.cells #[.int .i64 b.kind, .int .i64 b.k, (.slice Ab1 b.x.monos.length cb1), (.slice Ab2 b.y.monos.length cb2)] 30))).frozen? ⟨w.heap.size, oo, none⟩ = false := fun oo => by simp
    have hBb_0 : Bx ((w.alloc (Obj.cells #[.int .i64 a.kind, .int .i64 a.k, (.slice Aa1 a.x.monos.length ca1), (.slice Aa2 a.y.monos.length ca2)] 30)).alloc (Obj.cells #[.int .i64 b.kind, .int .i64 b.k, (.slice Ab1 b.x.monos.length cb1), (.slice Ab2 b.y.monos.length cb2)] 30)) (w.heap.size + 1) [.int .i64 b.kind, .int .i64 b.k, (.slice Ab1 b.x.monos.length cb1), (.slice Ab2 b.y.monos.length cb2)] := (by have := (Bx.new (w.alloc (Obj.cells #[.int .i64 a.kind, .int .i64 a.k, (.slice Aa1 a.x.monos.length ca1), (.slice Aa2 a.y.monos.length ca2)] 30)) #[.int .i64 b.kind, .int .i64 b.k, (.slice Ab1 b.x.monos.length cb1), (.slice Ab2 b.y.monos.length cb2)] 30); simpa using this)
    have hFb_0 : ∀ oo, (((w.alloc (Obj.cells #[.int .i64 a.kind, .int .i64 a.k, (.slice Aa1 a.x.monos.length ca1), (.slice Aa2 a.y.monos.length ca2)] 30)).alloc (Obj.cells #[.int .i64 b.kind, .int .i64 b.k, (.slice Ab1 b.x.monos.length cb1), (.slice Ab2 b.y.monos.length cb2)] 30))).frozen? ⟨w.heap.size + 1, oo, none⟩ = false := fun oo => by simp
    generalize ((w.alloc (Obj.cells #[.int .i64 a.kind, .int .i64 a.k, (.slice Aa1 a.x.monos.length ca1), (.slice Aa2 a.y.monos.length ca2)] 30)).alloc (Obj.cells #[.int .i64 b.kind, .int .i64 b.k, (.slice Ab1 b.x.monos.length cb1), (.slice Ab2 b.y.monos.length cb2)] 30)) = w0 at *
    have ya : w.heap.size < w0.heap.size := by omega
    have xa0 := hBa_0 0 _ rfl
    have xa1 := hBa_0 1 _ rfl
    have xa2 := hBa_0 2 _ rfl
    have xa3 := hBa_0 3 _ rfl
    have yb : w.heap.size + 1 < w0.heap.size := by omega
    have xb0 := hBb_0 0 _ rfl
    have xb1 := hBb_0 1 _ rfl
    have xb2 := hBb_0 2 _ rfl
    have xb3 := hBb_0 3 _ rfl
    go_wp2_with fail
    refine (samePol_any a.x b.x _ _ _ (ha1.ext (Ext.trans he0 Ext.auto)) (hb1.ext (Ext.trans he0 Ext.auto))).mono ?_
    rintro e w1 ⟨rfl, hy⟩
    clear xa0 xa1 xa2 xa3 ya
    clear xb0 xb1 xb2 xb3 yb
    have hx1 : Ext w0 w1 := Ext.trans (Ext.auto) hy
    have hs1 := hx1.size
    have he1 : Ext w w1 := he0.trans hx1
    have hBa_1 : Bx w1 (w.heap.size) [.int .i64 a.kind, .int .i64 a.k, (.slice Aa1 a.x.monos.length ca1), (.slice Aa2 a.y.monos.length ca2)] := hx1.bx hBa_0 (by omega)
    have hFa_1 : ∀ oo, w1.frozen? ⟨w.heap.size, oo, none⟩ = false := fun oo => (hx1.frozen (by omega)).trans (hFa_0 oo)
    have hBb_1 : Bx w1 (w.heap.size + 1) [.int .i64 b.kind, .int .i64 b.k, (.slice Ab1 b.x.monos.length cb1), (.slice Ab2 b.y.monos.length cb2)] := hx1.bx hBb_0 (by omega)
    have hFb_1 : ∀ oo, w1.frozen? ⟨w.heap.size + 1, oo, none⟩ = false := fun oo => (hx1.frozen (by omega)).trans (hFb_0 oo)
    clear hBa_0 hFa_0 hBb_0 hFb_0
    clear hy
    have ya : w.heap.size < w1.heap.size := by omega
    have xa0 := hBa_1 0 _ rfl
    have xa1 := hBa_1 1 _ rfl
    have xa2 := hBa_1 2 _ rfl
    have xa3 := hBa_1 3 _ rfl
    have yb : w.heap.size + 1 < w1.heap.size := by omega
    have xb0 := hBb_1 0 _ rfl
    have xb1 := hBb_1 1 _ rfl
    have xb2 := hBb_1 2 _ rfl
    have xb3 := hBb_1 3 _ rfl
    simp only [r2]
    go_wp2
    go_ret
    exact ⟨by rw [HV.out]; rfl, Ext.hold he1⟩
  cases r3 : decide (a.y = b.y)
  · 
    have HV := hide (show decide (a = b) = false by rw [HD.out, r0, r1, r2, r3]; rfl)
    go_enter Try.func65, Try.ntmps65
    go_upto_region 1 with fail
    have he0 : Ext w ((w.alloc (Obj.cells #[.int .i64 a.kind, .int .i64 a.k, (.slice Aa1 a.x.monos.length ca1), (.slice Aa2 a.y.monos.length ca2)] 30)).alloc (Obj.cells #[.int .i64 b.kind, .int .i64 b.k, (.slice Ab1 b.x.monos.length cb1), (.slice Ab2 b.y.monos.length cb2)] 30)) := (Ext.auto)
    have hs0 : w.heap.size + 2 ≤ (((w.alloc (Obj.cells #[.int .i64 a.kind, .int .i64 a.k, (.slice Aa1 a.x.monos.length ca1), (.slice Aa2 a.y.monos.length ca2)] 30)).alloc (Obj.cells #[.int .i64 b.kind, .int .i64 b.k, (.slice Ab1 b.x.monos.length cb1), (.slice Ab2 b.y.monos.length cb2)] 30))).heap.size := by simp
    have hq0 := hide (show (((w.alloc (Obj.cells #[.int .i64 a.kind, .int .i64 a.k, (.slice Aa1 a.x.monos.length ca1), (.slice Aa2 a.y.monos.length ca2)] 30)).alloc (Obj.cells #[.int .i64 b.kind, .int .i64 b.k, (.slice Ab1 b.x.monos.length cb1), (.slice Ab2 b.y.monos.length cb2)] 30))).heap.size = w.heap.size + 2 by simp)
    have hBa_0 : Bx ((w.alloc (Obj.cells #[.int .i64 a.kind, .int .i64 a.k, (.slice Aa1 a.x.monos.length ca1), (.slice Aa2 a.y.monos.length ca2)] 30)).alloc (Obj.cells #[.int .i64 b.kind, .int .i64 b.k, (.slice Ab1 b.x.monos.length cb1), (.slice Ab2 b.y.monos.length cb2)] 30)) (w.heap.size) [.int .i64 a.kind, .int .i64 a.k, (.slice Aa1 a.x.monos.length ca1), (.slice Aa2 a.y.monos.length ca2)] := (by have := (Bx.alloc (Bx.new w #[.int .i64 a.kind, .int .i64 a.k, (.slice Aa1 a.x.monos.length ca1), (.slice Aa2 a.y.monos.length ca2)] 30) (by simp) #[.int .i64 b.kind, .int .i64 b.k, (.slice Ab1 b.x.monos.length cb1), (.slice Ab2 b.y.monos.length cb2)] 30); simpa using this)
    have hFa_0 : ∀ oo, (((w.alloc (Obj.cells #[.int .i64 a.kind, .int .i64 a.k, (.slice Aa1 a.x.monos.length ca1), (.slice Aa2 a.y.monos.length ca2)] 30)).alloc (Obj.cells #[.int .i64 b.kind, .int .i64 b.k, (.slice Ab1 b.x.monos.length cb1), (.slice Ab2 b.y.monos.length cb2)] 30))).frozen? ⟨w.heap.size, oo, none⟩ = false := fun oo => by simp
    have hBb_0 : Bx ((w.alloc (Obj.cells #[.int .i64 a.kind, .int .i64 a.k, (.slice Aa1 a.x.monos.length ca1), (.slice Aa2 a.y.monos.length ca2)] 30)).alloc (Obj.cells #[.int .i64 b.kind, .int .i64 b.k, (.slice Ab1 b.x.monos.length cb1), (.slice Ab2 b.y.monos.length cb2)] 30)) (w.heap.size + 1) [.int .i64 b.kind, .int .i64 b.k, (.slice Ab1 b.x.monos.length cb1), (.slice Ab2 b.y.monos.length cb2)] := (by have := (Bx.new (w.alloc (Obj.cells #[.int .i64 a.kind, .int .i64 a.k, (.slice Aa1 a.x.monos.length ca1), (.slice Aa2 a.y.monos.length ca2)] 30)) #[.int .i64 b.kind, .int .i64 b.k, (.slice Ab1 b.x.monos.length cb1), (.slice Ab2 b.y.monos.length cb2)] 30); simpa using this)
    have hFb_0 : ∀ oo, (((w.alloc (Obj.cells #[.int .i64 a.kind, .int .i64 a.k, (.slice Aa1 a.x.monos.length ca1), (.slice Aa2 a.y.monos.length ca2)] 30)).alloc (Obj.cells #[.int .i64 b.kind, .int .i64 b.k, (.slice Ab1 b.x.monos.length cb1), (.slice Ab2 b.y.monos.length cb2)] 30))).frozen? ⟨w.heap.size + 1, oo, none⟩ = false := fun oo => by simp
    generalize ((w.alloc (Obj.cells #[.int .i64 a.kind, .int .i64 a.k, (.slice Aa1 a.x.monos.length ca1), (.slice Aa2 a.y.monos.length ca2)] 30)).alloc (Obj.cells #[.int .i64 b.kind, .int .i64 b.k, (.slice Ab1 b.x.monos.length cb1), (.slice Ab2 b.y.monos.length cb2)] 30)) = w0 at *
    have ya : w.heap.size < w0.heap.size := by omega
    have xa0 := hBa_0 0 _ rfl
    have xa1 := hBa_0 1 _ rfl
    have xa2 := hBa_0 2 _ rfl
    have xa3 := hBa_0 3 _ rfl
    have yb : w.heap.size + 1 < w0.heap.size := by omega
    have xb0 := hBb_0 0 _ rfl
    have xb1 := hBb_0 1 _ rfl
    have xb2 := hBb_0 2 _ rfl
    have xb3 := hBb_0 3 _ rfl
    go_wp2_with fail
    refine (samePol_any a.x b.x _ _ _ (ha1.ext (Ext.trans he0 Ext.auto)) (hb1.ext (Ext.trans he0 Ext.auto))).mono ?_
    rintro e w1 ⟨rfl, hy⟩
    clear xa0 xa1 xa2 xa3 ya
    clear xb0 xb1 xb2 xb3 yb
    have hx1 : Ext w0 w1 := Ext.trans (Ext.auto) hy
    have hs1 := hx1.size
    have he1 : Ext w w1 := he0.trans hx1
    have hBa_1 : Bx w1 (w.heap.size) [.int .i64 a.kind, .int .i64 a.k, (.slice Aa1 a.x.monos.length ca1), (.slice Aa2 a.y.monos.length ca2)] := hx1.bx hBa_0 (by omega)
    have hFa_1 : ∀ oo, w1.frozen? ⟨w.heap.size, oo, none⟩ = false := fun oo => (hx1.frozen (by omega)).trans (hFa_0 oo)
    have hBb_1 : Bx w1 (w.heap.size + 1) [.int .i64 b.kind, .int .i64 b.k, (.slice Ab1 b.x.monos.length cb1), (.slice Ab2 b.y.monos.length cb2)] := hx1.bx hBb_0 (by omega)
    have hFb_1 : ∀ oo, w1.frozen? ⟨w.heap.size + 1, oo, none⟩ = false := fun oo => (hx1.frozen (by omega)).trans (hFb_0 oo)
    clear hBa_0 hFa_0 hBb_0 hFb_0
    clear hy
    have ya : w.heap.size < w1.heap.size := by omega
    have xa0 := hBa_1 0 _ rfl
    have xa1 := hBa_1 1 _ rfl
    have xa2 := hBa_1 2 _ rfl
    have xa3 := hBa_1 3 _ rfl
    have yb : w.heap.size + 1 < w1.heap.size := by omega
    have xb0 := hBb_1 0 _ rfl
    have xb1 := hBb_1 1 _ rfl
    have xb2 := hBb_1 2 _ rfl
    have xb3 := hBb_1 3 _ rfl
    simp only [r2]
    go_wp2_with fail
    refine (samePol_any a.y b.y _ _ _ (ha2.ext (Ext.trans he1 Ext.auto)) (hb2.ext (Ext.trans he1 Ext.auto))).mono ?_
    rintro e w2 ⟨rfl, hy⟩
    clear xa0 xa1 xa2 xa3 ya
    clear xb0 xb1 xb2 xb3 yb
    have hx2 : Ext w1 w2 := Ext.trans (Ext.auto) hy
    have hs2 := hx2.size
    have he2 : Ext w w2 := he1.trans hx2
    have hBa_2 : Bx w2 (w.heap.size) [.int .i64 a.kind, .int .i64 a.k, (.slice Aa1 a.x.monos.length ca1), (.slice Aa2 a.y.monos.length ca2)] := hx2.bx hBa_1 (by omega)
    have hFa_2 : ∀ oo, w2.frozen? ⟨w.heap.size, oo, none⟩ = false := fun oo => (hx2.frozen (by omega)).trans (hFa_1 oo)
    have hBb_2 : Bx w2 (w.heap.size + 1) [.int .i64 b.kind, .int .i64 b.k, (.slice Ab1 b.x.monos.length cb1), (.slice Ab2 b.y.monos.length cb2)] := hx2.bx hBb_1 (by omega)
    have hFb_2 : ∀ oo, w2.frozen? ⟨w.heap.size + 1, oo, none⟩ = false := fun oo => (hx2.frozen (by omega)).trans (hFb_1 oo)
    clear hBa_1 hFa_1 hBb_1 hFb_1
    clear hy
    have ya : w.heap.size < w2.heap.size := by omega
    have xa0 := hBa_2 0 _ rfl
    have xa1 := hBa_2 1 _ rfl
    have xa2 := hBa_2 2 _ rfl
    have xa3 := hBa_2 3 _ rfl
    have yb : w.heap.size + 1 < w2.heap.size := by omega
    have xb0 := hBb_2 0 _ rfl
    have xb1 := hBb_2 1 _ rfl
    have xb2 := hBb_2 2 _ rfl
    have xb3 := hBb_2 3 _ rfl
    simp only [r3]
    go_wp2
    go_ret
    exact ⟨by rw [HV.out]; rfl, Ext.hold he2⟩
  have HV := hide (show decide (a = b) = true by rw [HD.out, r0, r1, r2, r3]; rfl)
  go_enter Try.func65, Try.ntmps65
  go_upto_region 1 with fail
  have he0 : Ext w ((w.alloc (Obj.cells #[.int .i64 a.kind, .int .i64 a.k, (.slice Aa1 a.x.monos.length ca1), (.slice Aa2 a.y.monos.length ca2)] 30)).alloc (Obj.cells #[.int .i64 b.kind, .int .i64 b.k, (.slice Ab1 b.x.monos.length cb1), (.slice Ab2 b.y.monos.length cb2)] 30)) := (Ext.auto)
  have hs0 : w.heap.size + 2 ≤ (((w.alloc (Obj.cells #[.int .i64 a.kind, .int .i64 a.k, (.slice Aa1 a.x.monos.length ca1), (.slice Aa2 a.y.monos.length ca2)] 30)).alloc (Obj.cells #[.int .i64 b.kind, .int .i64 b.k, (.slice Ab1 b.x.monos.length cb1), (.slice Ab2 b.y.monos.length cb2)] 30))).heap.size := by simp
  have hq0 := hide (show (((w.alloc (Obj.cells #[.int .i64 a.kind, .int .i64 a.k, (.slice Aa1 a.x.monos.length ca1), (.slice Aa2 a.y.monos.length ca2)] 30)).alloc (Obj.cells #[.int .i64 b.kind, .int .i64 b.k, (.slice Ab1 b.x.monos.length cb1), (.slice Ab2 b.y.monos.length cb2)] 30))).heap.size = w.heap.size + 2 by simp)
  have hBa_0 : Bx ((w.alloc (Obj.cells #[.int .i64 a.kind, .int .i64 a.k, (.slice Aa1 a.x.monos.length ca1), (.slice Aa2 a.y.monos.length ca2)] 30)).alloc (Obj.cells #[.int .i64 b.kind, .int .i64 b.k, (.slice Ab1 b.x.monos.length cb1), (.slice Ab2 b.y.monos.length cb2)] 30)) (w.heap.size) [.int .i64 a.kind, .int .i64 a.k, (.slice Aa1 a.x.monos.length ca1), (.slice Aa2 a.y.monos.length ca2)] := (by have := (Bx.alloc (Bx.new w #[.int .i64 a.kind, .int .i64 a.k, (.slice Aa1 a.x.monos.length ca1), (.slice Aa2 a.y.monos.length ca2)] 30) (by simp) #[.int .i64 b.kind, .int .i64 b.k, (.slice Ab1 b.x.monos.length cb1), (.slice Ab2 b.y.monos.length cb2)] 30); simpa using this)
  have hFa_0 : ∀ oo, (((w.alloc (Obj.cells #[.int .i64 a.kind, .int .i64 a.k, (.slice Aa1 a.x.monos.length ca1), (.slice Aa2 a.y.monos.length ca2)] 30)).alloc (Obj.cells #[.int .i64 b.kind, .int .i64 b.k, (.slice Ab1 b.x.monos.length cb1), (.slice Ab2 b.y.monos.length cb2)] 30))).frozen? ⟨w.heap.size, oo, none⟩ = false := fun oo => by simp
  have hBb_0 : Bx ((w.alloc (Obj.cells #[.int .i64 a.kind, .int .i64 a.k, (.slice Aa1 a.x.monos.length ca1), (.slice Aa2 a.y.monos.length ca2)] 30)).alloc (Obj.cells #[.int .i64 b.kind, .int .i64 b.k, (.slice Ab1 b.x.monos.length cb1), (.slice Ab2 b.y.monos.length cb2)] 30)) (w.heap.size + 1) [.int .i64 b.kind, .int .i64 b.k, (.slice Ab1 b.x.monos.length cb1), (.slice Ab2 b.y.monos.length cb2)] := (by have := (Bx.new (w.alloc (Obj.cells #[.int .i64 a.kind, .int .i64 a.k, (.slice Aa1 a.x.monos.length ca1), (.slice Aa2 a.y.monos.length ca2)] 30)) #[.int .i64 b.kind, .int .i64 b.k, (.slice Ab1 b.x.monos.length cb1), (.slice Ab2 b.y.monos.length cb2)] 30); simpa using this)
  have hFb_0 : ∀ oo, (((w.alloc (Obj.cells #[.int .i64 a.kind, .int .i64 a.k, (.slice Aa1 a.x.monos.length ca1), (.slice Aa2 a.y.monos.length ca2)] 30)).alloc (Obj.cells #[.int .i64 b.kind, .int .i64 b.k, (.slice Ab1 b.x.monos.length cb1), (.slice Ab2 b.y.monos.length cb2)] 30))).frozen? ⟨w.heap.size + 1, oo, none⟩ = false := fun oo => by simp
  generalize ((w.alloc (Obj.cells #[.int .i64 a.kind, .int .i64 a.k, (.slice Aa1 a.x.monos.length ca1), (.slice Aa2 a.y.monos.length ca2)] 30)).alloc (Obj.cells #[.int .i64 b.kind, .int .i64 b.k, (.slice Ab1 b.x.monos.length cb1), (.slice Ab2 b.y.monos.length cb2)] 30)) = w0 at *
  have ya : w.heap.size < w0.heap.size := by omega
  have xa0 := hBa_0 0 _ rfl
  have xa1 := hBa_0 1 _ rfl
  have xa2 := hBa_0 2 _ rfl
  have xa3 := hBa_0 3 _ rfl
  have yb : w.heap.size + 1 < w0.heap.size := by omega
  have xb0 := hBb_0 0 _ rfl
  have xb1 := hBb_0 1 _ rfl
  have xb2 := hBb_0 2 _ rfl
  have xb3 := hBb_0 3 _ rfl
  go_wp2_with fail
  refine (samePol_any a.x b.x _ _ _ (ha1.ext (Ext.trans he0 Ext.auto)) (hb1.ext (Ext.trans he0 Ext.auto))).mono ?_
  rintro e w1 ⟨rfl, hy⟩
  clear xa0 xa1 xa2 xa3 ya
  clear xb0 xb1 xb2 xb3 yb
  have hx1 : Ext w0 w1 := Ext.trans (Ext.auto) hy
  have hs1 := hx1.size
  have he1 : Ext w w1 := he0.trans hx1
  have hBa_1 : Bx w1 (w.heap.size) [.int .i64 a.kind, .int .i64 a.k, (.slice Aa1 a.x.monos.length ca1), (.slice Aa2 a.y.monos.length ca2)] := hx1.bx hBa_0 (by omega)
  have hFa_1 : ∀ oo, w1.frozen? ⟨w.heap.size, oo, none⟩ = false := fun oo => (hx1.frozen (by omega)).trans (hFa_0 oo)
  have hBb_1 : Bx w1 (w.heap.size + 1) [.int .i64 b.kind, .int .i64 b.k, (.slice Ab1 b.x.monos.length cb1), (.slice Ab2 b.y.monos.length cb2)] := hx1.bx hBb_0 (by omega)
  have hFb_1 : ∀ oo, w1.frozen? ⟨w.heap.size + 1, oo, none⟩ = false := fun oo => (hx1.frozen (by omega)).trans (hFb_0 oo)
  clear hBa_0 hFa_0 hBb_0 hFb_0
  clear hy
  have ya : w.heap.size < w1.heap.size := by omega
  have xa0 := hBa_1 0 _ rfl
  have xa1 := hBa_1 1 _ rfl
  have xa2 := hBa_1 2 _ rfl
  have xa3 := hBa_1 3 _ rfl
  have yb : w.heap.size + 1 < w1.heap.size := by omega
  have xb0 := hBb_1 0 _ rfl
  have xb1 := hBb_1 1 _ rfl
  have xb2 := hBb_1 2 _ rfl
  have xb3 := hBb_1 3 _ rfl
  simp only [r2]
  go_wp2_with fail
  refine (samePol_any a.y b.y _ _ _ (ha2.ext (Ext.trans he1 Ext.auto)) (hb2.ext (Ext.trans he1 Ext.auto))).mono ?_
  rintro e w2 ⟨rfl, hy⟩
  clear xa0 xa1 xa2 xa3 ya
  clear xb0 xb1 xb2 xb3 yb
  have hx2 : Ext w1 w2 := Ext.trans (Ext.auto) hy
  have hs2 := hx2.size
  have he2 : Ext w w2 := he1.trans hx2
  have hBa_2 : Bx w2 (w.heap.size) [.int .i64 a.kind, .int .i64 a.k, (.slice Aa1 a.x.monos.length ca1), (.slice Aa2 a.y.monos.length ca2)] := hx2.bx hBa_1 (by omega)
  have hFa_2 : ∀ oo, w2.frozen? ⟨w.heap.size, oo, none⟩ = false := fun oo => (hx2.frozen (by omega)).trans (hFa_1 oo)
  have hBb_2 : Bx w2 (w.heap.size + 1) [.int .i64 b.kind, .int .i64 b.k, (.slice Ab1 b.x.monos.length cb1), (.slice Ab2 b.y.monos.length cb2)] := hx2.bx hBb_1 (by omega)
  have hFb_2 : ∀ oo, w2.frozen? ⟨w.heap.size + 1, oo, none⟩ = false := fun oo => (hx2.frozen (by omega)).trans (hFb_1 oo)
  clear hBa_1 hFa_1 hBb_1 hFb_1
  clear hy
  have ya : w.heap.size < w2.heap.size := by omega
  have xa0 := hBa_2 0 _ rfl
  have xa1 := hBa_2 1 _ rfl
  have xa2 := hBa_2 2 _ rfl
  have xa3 := hBa_2 3 _ rfl
  have yb : w.heap.size + 1 < w2.heap.size := by omega
  have xb0 := hBb_2 0 _ rfl
  have xb1 := hBb_2 1 _ rfl
  have xb2 := hBb_2 2 _ rfl
  have xb3 := hBb_2 3 _ rfl
  simp only [r3]
  go_wp2
  go_ret
  exact ⟨by rw [HV.out]; rfl, Ext.hold he2⟩

end Go.Proofs.Ytmbclopkopfngaa
