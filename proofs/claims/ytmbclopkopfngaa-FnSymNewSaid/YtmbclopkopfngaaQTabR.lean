/-
  TabR
-/
import Derived.Test.YtmbclopkopfngaaQRead
import Derived.Test.YtmbclopkopfngaaQPolS
import Derived.Deep.DeepCutAuto
namespace Go.Proofs.Ytmbclopkopfngaa
open Go.RowKit

set_option linter.unusedVariables false
set_option linter.unusedSimpArgs false
set_option maxRecDepth 100000

set_option maxHeartbeats 16000000 in
theorem specPolUnder_any (p : TrmPoly) (n : Int) (vp1 : Value) (w : World) (hp1 : Sl w (Old w) vp1 p.monos)  :
    Calls Try.prog 70 #[.agg #[vp1], .int .i64 n] w fun e w' => e = .returned (.bool (polUnderB p n)) ∧ Ext w w' := by
  obtain ⟨Ap1, cp1, rfl, hlp1, hmp1⟩ := hp1.form
  unfold maxLen at hmp1
  go_enter Try.func70, Try.ntmps70
  go_upto_region 1 with fail
  have he0 : Ext w (w.alloc (Obj.cells #[(.slice Ap1 p.monos.length cp1)] 28)) := (Ext.auto)
  have hs0 : w.heap.size + 1 ≤ ((w.alloc (Obj.cells #[(.slice Ap1 p.monos.length cp1)] 28))).heap.size := by simp
  have hq0 := hide (show ((w.alloc (Obj.cells #[(.slice Ap1 p.monos.length cp1)] 28))).heap.size = w.heap.size + 1 by simp)
  have hBp_0 : Bx (w.alloc (Obj.cells #[(.slice Ap1 p.monos.length cp1)] 28)) (w.heap.size) [(.slice Ap1 p.monos.length cp1)] := (by have := (Bx.new w #[(.slice Ap1 p.monos.length cp1)] 28); simpa using this)
  have hFp_0 : ∀ oo, ((w.alloc (Obj.cells #[(.slice Ap1 p.monos.length cp1)] 28))).frozen? ⟨w.heap.size, oo, none⟩ = false := fun oo => by simp
  generalize (w.alloc (Obj.cells #[(.slice Ap1 p.monos.length cp1)] 28)) = w0 at *
  have yp : w.heap.size < w0.heap.size := by omega
  have xp0 : w0.cell? ⟨w.heap.size, 0, none⟩ = some ((.slice Ap1 p.monos.length cp1)) := hBp_0 0 _ rfl
  go_wp2
  clear xp0 yp
  go_loopw [5] (fun i wr => ∃ k : Nat, k ≤ p.monos.length ∧ i = .int .i64 k ∧ Ext w0 wr ∧ Hid (∀ j, j < k → monoUnderB n (gM p.monos j) = true)) (fun i _ => p.monos.length - (intOf i).toNat)
  case atStart => exact ⟨0, by omega, rfl, Ext.auto, fun j hj => absurd hj (by omega)⟩
  case round =>
    obtain ⟨k, hk, rfl, hx0, HT⟩ := hrel
    obtain ⟨w1, hw1⟩ : ∃ w1 : World, w1 = wr := ⟨_, rfl⟩
    subst hw1
    have hz := hx0.size
    have he := he0.trans hx0
    have hB1 := hx0.bx hBp_0 (by omega)
    have xp0 := hB1 0 _ rfl
    have yp : w.heap.size < w1.heap.size := by omega
    by_cases hlt : k < p.monos.length
    · obtain ⟨b, off, va, rfl, hbo, hk0, hva, e0, e1⟩ := at_TrmMono (hp1.ext he) hlt
      obtain ⟨Ava, cva, rfl, hlv, hmv⟩ := hva.form
      unfold maxLen at hmv
      have hbo1 : b < w1.heap.size := hbo
      have z0 : (0 : Int) ≤ (k : Int) := by omega
      have z1 : (k : Int) < (p.monos.length : Int) := by omega
      have HG := hide (gM_at p.monos k hlt)
      go_wp2
      go_loopw [6] (fun i wr => ∃ j : Nat, j ≤ p.monos[k].atoms.length ∧ i = .int .i64 j ∧ Ext w1 wr ∧ Hid (w1 = wr) ∧ Hid (∀ i, i < j → gN p.monos[k].atoms i < n)) (fun i _ => p.monos[k].atoms.length - (intOf i).toNat)
      case atStart => exact ⟨0, by omega, rfl, Ext.refl _, rfl, fun j hj => absurd hj (by omega)⟩
      case round =>
        obtain ⟨j, hj, rfl, -, hww, HTj⟩ := hrel
        have hww := hww.out
        subst hww
        by_cases hjl : j < p.monos[k].atoms.length
        · obtain ⟨b2, off2, rfl, hbo2, hk2, g0⟩ := at_Int hva hjl
          have hbo21 : b2 < w1.heap.size := hbo2
          have y0 : (0 : Int) ≤ (j : Int) := by omega
          have y1 : (j : Int) < (p.monos[k].atoms.length : Int) := by omega
          have HGj := hide (gN_at p.monos[k].atoms j hjl)
          by_cases ha : n ≤ p.monos[k].atoms[j]
          · have q2 : decide (n ≤ p.monos[k].atoms[j]) = true := decide_eq_true ha
            have HF := hide (show polUnderB p n = false from allB_no hlt (by rw [HG.out]; exact allB_no hjl (by rw [HGj.out]; exact decide_eq_false (by omega))))
            clear ha
            go_wp2
            go_ret
            exact ⟨by rw [HF.out]; rfl, he⟩
          · have q2 : decide (n ≤ p.monos[k].atoms[j]) = false := decide_eq_false ha
            have HN := hide (show ∀ i, i < j + 1 → gN p.monos[k].atoms i < n from fun i hi => by
              by_cases e : i = j
              · subst e; rw [HGj.out]; omega
              · exact HTj.out i (by omega))
            clear ha
            go_wp2_with fail
            go_roundw
            case rel => exact ⟨j + 1, by omega, by go_num, Ext.refl _, (by first | exact hide True.intro | exact hide rfl), HN.out⟩
            case measure => (simp [intOf]; try omega)
        · obtain rfl : j = p.monos[k].atoms.length := by omega
          have HM := hide (show monoUnderB n p.monos[k] = true from allB_yes fun i hi => decide_eq_true (HTj.out i hi))
          have HN := hide (allB_next (f := fun j => monoUnderB n (gM p.monos j)) HT.out (by rw [HG.out]; exact HM.out))
          go_wp2_with fail
          go_roundw
          case rel => exact ⟨k + 1, by omega, by go_num, hx0, HN.out⟩
          case measure => (simp [intOf]; try omega)
    · obtain rfl : k = p.monos.length := by omega
      have HF := hide (show polUnderB p n = true from allB_yes HT.out)
      go_wp2
      go_ret
      exact ⟨by rw [HF.out]; rfl, he⟩

set_option maxHeartbeats 4000000 in
theorem l5Bare_any (a : TabAtom) (va1 va2 : Value) (w : World) (ha1 : Sl w (Old w) va1 a.x.monos) (ha2 : Sl w (Old w) va2 a.y.monos)  :
    Calls Try.prog 69 #[.agg #[.int .i64 a.kind, .int .i64 a.k, va1, va2]] w fun e w' => e = .returned (.bool (bareB a)) ∧ Ext w w' := by
  obtain ⟨Aa1, ca1, rfl, hla1, hma1⟩ := ha1.form
  obtain ⟨Aa2, ca2, rfl, hla2, hma2⟩ := ha2.form
  have hb : bareB a = (((a.x.monos.length : Int) == 0) && ((a.y.monos.length : Int) == 0)) := by unfold bareB; rw [Bool.eq_iff_iff]; simp
  have HB := hide hb
  clear hb
  cases q0 : ((a.x.monos.length : Int) == 0) <;> cases q1 : ((a.y.monos.length : Int) == 0)
  · 
    go_enter Try.func69, Try.ntmps69
    go_upto_region 1 with fail
    have he0 : Ext w (w.alloc (Obj.cells #[.int .i64 a.kind, .int .i64 a.k, (.slice Aa1 a.x.monos.length ca1), (.slice Aa2 a.y.monos.length ca2)] 30)) := (Ext.auto)
    have hs0 : w.heap.size + 1 ≤ ((w.alloc (Obj.cells #[.int .i64 a.kind, .int .i64 a.k, (.slice Aa1 a.x.monos.length ca1), (.slice Aa2 a.y.monos.length ca2)] 30))).heap.size := by simp
    have hq0 := hide (show ((w.alloc (Obj.cells #[.int .i64 a.kind, .int .i64 a.k, (.slice Aa1 a.x.monos.length ca1), (.slice Aa2 a.y.monos.length ca2)] 30))).heap.size = w.heap.size + 1 by simp)
    have hBa_0 : Bx (w.alloc (Obj.cells #[.int .i64 a.kind, .int .i64 a.k, (.slice Aa1 a.x.monos.length ca1), (.slice Aa2 a.y.monos.length ca2)] 30)) (w.heap.size) [.int .i64 a.kind, .int .i64 a.k, (.slice Aa1 a.x.monos.length ca1), (.slice Aa2 a.y.monos.length ca2)] := (by have := (Bx.new w #[.int .i64 a.kind, .int .i64 a.k, (.slice Aa1 a.x.monos.length ca1), (.slice Aa2 a.y.monos.length ca2)] 30); simpa using this)
    have hFa_0 : ∀ oo, ((w.alloc (Obj.cells #[.int .i64 a.kind, .int .i64 a.k, (.slice Aa1 a.x.monos.length ca1), (.slice Aa2 a.y.monos.length ca2)] 30))).frozen? ⟨w.heap.size, oo, none⟩ = false := fun oo => by simp
    generalize (w.alloc (Obj.cells #[.int .i64 a.kind, .int .i64 a.k, (.slice Aa1 a.x.monos.length ca1), (.slice Aa2 a.y.monos.length ca2)] 30)) = w0 at *
    have ya : w.heap.size < w0.heap.size := by omega
    have xa0 := hBa_0 0 _ rfl
    have xa1 := hBa_0 1 _ rfl
    have xa2 := hBa_0 2 _ rfl
    have xa3 := hBa_0 3 _ rfl
    go_wp2
    go_ret
    exact ⟨by rw [HB.out, q0, q1]; rfl, Ext.hold he0⟩
  · 
    go_enter Try.func69, Try.ntmps69
    go_upto_region 1 with fail
    have he0 : Ext w (w.alloc (Obj.cells #[.int .i64 a.kind, .int .i64 a.k, (.slice Aa1 a.x.monos.length ca1), (.slice Aa2 a.y.monos.length ca2)] 30)) := (Ext.auto)
    have hs0 : w.heap.size + 1 ≤ ((w.alloc (Obj.cells #[.int .i64 a.kind, .int .i64 a.k, (.slice Aa1 a.x.monos.length ca1), (.slice Aa2 a.y.monos.length ca2)] 30))).heap.size := by simp
    have hq0 := hide (show ((w.alloc (Obj.cells #[.int .i64 a.kind, .int .i64 a.k, (.slice Aa1 a.x.monos.length ca1), (.slice Aa2 a.y.monos.length ca2)] 30))).heap.size = w.heap.size + 1 by simp)
    have hBa_0 : Bx (w.alloc (Obj.cells #[.int .i64 a.kind, .int .i64 a.k, (.slice Aa1 a.x.monos.length ca1), (.slice Aa2 a.y.monos.length ca2)] 30)) (w.heap.size) [.int .i64 a.kind, .int .i64 a.k, (.slice Aa1 a.x.monos.length ca1), (.slice Aa2 a.y.monos.length ca2)] := (by have := (Bx.new w #[.int .i64 a.kind, .int .i64 a.k, (.slice Aa1 a.x.monos.length ca1), (.slice Aa2 a.y.monos.length ca2)] 30); simpa using this)
    have hFa_0 : ∀ oo, ((w.alloc (Obj.cells #[.int .i64 a.kind, .int .i64 a.k, (.slice Aa1 a.x.monos.length ca1), (.slice Aa2 a.y.monos.length ca2)] 30))).frozen? ⟨w.heap.size, oo, none⟩ = false := fun oo => by simp
    generalize (w.alloc (Obj.cells #[.int .i64 a.kind, .int .i64 a.k, (.slice Aa1 a.x.monos.length ca1), (.slice Aa2 a.y.monos.length ca2)] 30)) = w0 at *
    have ya : w.heap.size < w0.heap.size := by omega
    have xa0 := hBa_0 0 _ rfl
    have xa1 := hBa_0 1 _ rfl
    have xa2 := hBa_0 2 _ rfl
    have xa3 := hBa_0 3 _ rfl
    go_wp2
    go_ret
    exact ⟨by rw [HB.out, q0, q1]; rfl, Ext.hold he0⟩
  · 
    go_enter Try.func69, Try.ntmps69
    go_upto_region 1 with fail
    have he0 : Ext w (w.alloc (Obj.cells #[.int .i64 a.kind, .int .i64 a.k, (.slice Aa1 a.x.monos.length ca1), (.slice Aa2 a.y.monos.length ca2)] 30)) := (Ext.auto)
    have hs0 : w.heap.size + 1 ≤ ((w.alloc (Obj.cells #[.int .i64 a.kind, .int .i64 a.k, (.slice Aa1 a.x.monos.length ca1), (.slice Aa2 a.y.monos.length ca2)] 30))).heap.size := by simp
    have hq0 := hide (show ((w.alloc (Obj.cells #[.int .i64 a.kind, .int .i64 a.k, (.slice Aa1 a.x.monos.length ca1), (.slice Aa2 a.y.monos.length ca2)] 30))).heap.size = w.heap.size + 1 by simp)
    have hBa_0 : Bx (w.alloc (Obj.cells #[.int .i64 a.kind, .int .i64 a.k, (.slice Aa1 a.x.monos.length ca1), (.slice Aa2 a.y.monos.length ca2)] 30)) (w.heap.size) [.int .i64 a.kind, .int .i64 a.k, (.slice Aa1 a.x.monos.length ca1), (.slice Aa2 a.y.monos.length ca2)] := (by have := (Bx.new w #[.int .i64 a.kind, .int .i64 a.k, (.slice Aa1 a.x.monos.length ca1), (.slice Aa2 a.y.monos.length ca2)] 30); simpa using this)
    have hFa_0 : ∀ oo, ((w.alloc (Obj.cells #[.int .i64 a.kind, .int .i64 a.k, (.slice Aa1 a.x.monos.length ca1), (.slice Aa2 a.y.monos.length ca2)] 30))).frozen? ⟨w.heap.size, oo, none⟩ = false := fun oo => by simp
    generalize (w.alloc (Obj.cells #[.int .i64 a.kind, .int .i64 a.k, (.slice Aa1 a.x.monos.length ca1), (.slice Aa2 a.y.monos.length ca2)] 30)) = w0 at *
    have ya : w.heap.size < w0.heap.size := by omega
    have xa0 := hBa_0 0 _ rfl
    have xa1 := hBa_0 1 _ rfl
    have xa2 := hBa_0 2 _ rfl
    have xa3 := hBa_0 3 _ rfl
    go_wp2
    go_ret
    exact ⟨by rw [HB.out, q0, q1]; rfl, Ext.hold he0⟩
  · 
    go_enter Try.func69, Try.ntmps69
    go_upto_region 1 with fail
    have he0 : Ext w (w.alloc (Obj.cells #[.int .i64 a.kind, .int .i64 a.k, (.slice Aa1 a.x.monos.length ca1), (.slice Aa2 a.y.monos.length ca2)] 30)) := (Ext.auto)
    have hs0 : w.heap.size + 1 ≤ ((w.alloc (Obj.cells #[.int .i64 a.kind, .int .i64 a.k, (.slice Aa1 a.x.monos.length ca1), (.slice Aa2 a.y.monos.length ca2)] 30))).heap.size := by simp
    have hq0 := hide (show ((w.alloc (Obj.cells #[.int .i64 a.kind, .int .i64 a.k, (.slice Aa1 a.x.monos.length ca1), (.slice Aa2 a.y.monos.length ca2)] 30))).heap.size = w.heap.size + 1 by simp)
    have hBa_0 : Bx (w.alloc (Obj.cells #[.int .i64 a.kind, .int .i64 a.k, (.slice Aa1 a.x.monos.length ca1), (.slice Aa2 a.y.monos.length ca2)] 30)) (w.heap.size) [.int .i64 a.kind, .int .i64 a.k, (.slice Aa1 a.x.monos.length ca1), (.slice Aa2 a.y.monos.length ca2)] := (by have := (Bx.new w #[.int .i64 a.kind, .int .i64 a.k, (.slice Aa1 a.x.monos.length ca1), (.slice Aa2 a.y.monos.length ca2)] 30); simpa using this)
    have hFa_0 : ∀ oo, ((w.alloc (Obj.cells #[.int .i64 a.kind, .int .i64 a.k, (.slice Aa1 a.x.monos.length ca1), (.slice Aa2 a.y.monos.length ca2)] 30))).frozen? ⟨w.heap.size, oo, none⟩ = false := fun oo => by simp
    generalize (w.alloc (Obj.cells #[.int .i64 a.kind, .int .i64 a.k, (.slice Aa1 a.x.monos.length ca1), (.slice Aa2 a.y.monos.length ca2)] 30)) = w0 at *
    have ya : w.heap.size < w0.heap.size := by omega
    have xa0 := hBa_0 0 _ rfl
    have xa1 := hBa_0 1 _ rfl
    have xa2 := hBa_0 2 _ rfl
    have xa3 := hBa_0 3 _ rfl
    go_wp2
    go_ret
    exact ⟨by rw [HB.out, q0, q1]; rfl, Ext.hold he0⟩

set_option maxHeartbeats 16000000 in
theorem specSameAtom_any (a : TabAtom) (b : TabAtom) (va1 va2 vb1 vb2 : Value) (w : World) (ha1 : Sl w (Old w) va1 a.x.monos) (ha2 : Sl w (Old w) va2 a.y.monos) (hb1 : Sl w (Old w) vb1 b.x.monos) (hb2 : Sl w (Old w) vb2 b.y.monos)  :
    Calls Try.prog 45 #[.agg #[.int .i64 a.kind, .int .i64 a.k, va1, va2], .agg #[.int .i64 b.kind, .int .i64 b.k, vb1, vb2]] w fun e w' => e = .returned (.bool (decide (a = b))) ∧ Ext w w' := by
  obtain ⟨Aa1, ca1, rfl, hla1, hma1⟩ := ha1.form
  obtain ⟨Aa2, ca2, rfl, hla2, hma2⟩ := ha2.form
  obtain ⟨Ab1, cb1, rfl, hlb1, hmb1⟩ := hb1.form
  obtain ⟨Ab2, cb2, rfl, hlb2, hmb2⟩ := hb2.form
  have HD := hide (show decide (a = b) = ((a.kind == b.kind) && (a.k == b.k) && decide (a.x = b.x) && decide (a.y = b.y)) by
    cases a; cases b
    rw [Bool.eq_iff_iff]
    simp
    constructor
    · rintro ⟨h1, h2, h3, h4⟩; exact ⟨⟨⟨h1, h2⟩, h3⟩, h4⟩
    · rintro ⟨⟨⟨h1, h2⟩, h3⟩, h4⟩; exact ⟨h1, h2, h3, h4⟩)
  cases r0 : (a.kind == b.kind)
  · 
    have HV := hide (show decide (a = b) = false by rw [HD.out, r0]; rfl)
    go_enter Try.func45, Try.ntmps45
    go_upto_region 1 with fail
    have he0 : Ext w ((w.alloc (Obj.cells #[.int .i64 a.kind, .int .i64 a.k, (.slice Aa1 a.x.monos.length ca1), (.slice Aa2 a.y.monos.length ca2)] 30)).alloc (Obj.cells #[.int .i64 b.kind, .int .i64 b.k, (.slice Ab1 b.x.monos.length cb1), (.slice Ab2 b.y.monos.length cb2)] 30)) := (Ext.auto)
    have hs0 : w.heap.size + 2 ≤ (((w.alloc (Obj.cells #[.int .i64 a.kind, .int .i64 a.k, (.slice Aa1 a.x.monos.length ca1), (.slice Aa2 a.y.monos.length ca2)] 30)).alloc (Obj.cells #[.int .i64 b.kind, .int .i64 b.k, (.slice Ab1 b.x.monos.length cb1), (.slice Ab2 b.y.monos.length cb2)] 30))).heap.size := by simp
    have hq0 := hide (show (((w.alloc (Obj.cells #[.int .i64 a.kind, .int .i64 a.k, (.slice Aa1 a.x.monos.length ca1), (.slice Aa2 a.y.monos.length ca2)] 30)).alloc (Obj.cells #[.int .i64 b.kind, .int .i64 b.k, (.slice Ab1 b.x.monos.length cb1), (.slice Ab2 b.y.monos.length cb2)] 30))).heap.size = w.heap.size + 2 by simp)
    have hBa_0 : Bx ((w.alloc (Obj.cells #[.int .i64 a.kind, .int .i64 a.k, (.slice Aa1 a.x.monos.length ca1), (.slice Aa2 a.y.monos.length ca2)] 30)).alloc (Obj.cells #[.int .i64 b.kind, .int .i64 b.k, (.slice Ab1 b.x.monos.length cb1), (.slice Ab2 b.y.monos.length cb2)] 30)) (w.heap.size) [.int .i64 a.kind, .int .i64 a.k, (.slice Aa1 a.x.monos.length ca1), (.slice Aa2 a.y.monos.length ca2)] := (by have := (Bx.alloc (Bx.new w #[.int .i64 a.kind, .int .i64 a.k, (.slice Aa1 a.x.monos.length ca1), (.slice Aa2 a.y.monos.length ca2)] 30) (by simp) #[.int .i64 b.kind, .int .i64 b.k, (.slice Ab1 b.x.monos.length cb1), (.slice Ab2 b.y.monos.length cb2)] 30); simpa using this)
    have hFa_0 : ∀ oo, (((w.alloc (Obj.cells #[.int .i64 a.kind, .int .i64 a.k, (.slice Aa1 a.x.monos.length ca1), (.slice Aa2 a.y.monos.length ca2)] 30)).alloc (Obj.cells #[.int .i64 b.kind, .int .i64 b.k, (.slice Ab1 b.x.monos.length cb1), (.slice Ab2 b.y.monos.length cb2)] 30))).frozen? ⟨w.heap.size, oo, none⟩ = false := fun oo => by simp
    have hBb_0 : Bx ((w.alloc (Obj.cells #[.int .i64 a.kind, .int .i64 a.k, (.slice Aa1 a.x.monos.length ca1), (.slice Aa2 a.y.monos.length ca2)] 30)).alloc (Obj.cells #[.int .i64 b.kind, .int .i64 b.k, (.slice Ab1 b.x.monos.length cb1), (.slice Ab2 b.y.monos.length cb2)] 30)) (w.heap.size + 1) [.int .i64 b.kind, .int .i64 b.k, (.slice Ab1 b.x.monos.length cb1), (.slice Ab2 b.y.monos.length cb2)] := (by have := (Bx.new (w.alloc (Obj.cells #[.int .i64 a.kind, .int .i64 a.k, (.slice Aa1 a.x.monos.length ca1), (.slice Aa2 a.y.monos.length ca2)] 30)) #[.int .i64 b.kind, .int .i64 b.k, (.slice Ab1 b.x.monos.length cb1), (.slice Ab2 b.y.monos.length cb2)] 30); simpa using this)
    have hFb_0 : ∀ oo, (((w.alloc (Obj.cells #[.int .i64 a.kind, .int .i64 a.k, (.slice Aa1 a.x.monos.length ca1), (.slice Aa2 a.y.monos.length ca2)] 30)).alloc (Obj.cells #[.int .i64 b.kind, .int .i64 b.k, (.slice Ab1 b.x.monos.length cb1), (.slice Ab2 b.y.monos.length cb2)] 30))).frozen? ⟨w.heap.size + 1, oo, none⟩ = false := fun oo => by simp
    generalize ((w.alloc (Obj.cells #[.int .i64 a.kind, .int .i64 a.k, (.slice Aa1 a.x.monos.length ca1), (.slice Aa2 a.y.monos.length ca2)] 30)).alloc (Obj.cells #[.int .i64 b.kind, .int .i64 b.k, (.slice Ab1 b.x.monos.length cb1), (.slice Ab2 b.y.monos.length cb2)] 30)) = w0 at *
    have ya : w.heap.size < w0.heap.size := by omega
    have xa0 := hBa_0 0 _ rfl
    have xa1 := hBa_0 1 _ rfl
    have xa2 := hBa_0 2 _ rfl
    have xa3 := hBa_0 3 _ rfl
    have yb : w.heap.size + 1 < w0.heap.size := by omega
    have xb0 := hBb_0 0 _ rfl
    have xb1 := hBb_0 1 _ rfl
    have xb2 := hBb_0 2 _ rfl
    have xb3 := hBb_0 3 _ rfl
    go_wp2
    go_ret
    exact ⟨by rw [HV.out]; rfl, Ext.hold he0⟩
  cases r1 : (a.k == b.k)
  · 
    have HV := hide (show decide (a = b) = false by rw [HD.out, r0, r1]; rfl)
    go_enter Try.func45, Try.ntmps45
    go_upto_region 1 with fail
    have he0 : Ext w ((w.alloc (Obj.cells #[.int .i64 a.kind, .int .i64 a.k, (.slice Aa1 a.x.monos.length ca1), (.slice Aa2 a.y.monos.length ca2)] 30)).alloc (Obj.cells #[.int .i64 b.kind, .int .i64 b.k, (.slice Ab1 b.x.monos.length cb1), (.slice Ab2 b.y.monos.length cb2)] 30)) := (Ext.auto)
    have hs0 : w.heap.size + 2 ≤ (((w.alloc (Obj.cells #[.int .i64 a.kind, .int .i64 a.k, (.slice Aa1 a.x.monos.length ca1), (.slice Aa2 a.y.monos.length ca2)] 30)).alloc (Obj.cells #[.int .i64 b.kind, .int .i64 b.k, (.slice Ab1 b.x.monos.length cb1), (.slice Ab2 b.y.monos.length cb2)] 30))).heap.size := by simp
    have hq0 := hide (show (((w.alloc (Obj.cells #[.int .i64 a.kind, .int .i64 a.k, (.slice Aa1 a.x.monos.length ca1), (.slice Aa2 a.y.monos.length ca2)] 30)).alloc (Obj.cells #[.int .i64 b.kind, .int .i64 b.k, (.slice Ab1 b.x.monos.length cb1), (.slice Ab2 b.y.monos.length cb2)] 30))).heap.size = w.heap.size + 2 by simp)
    have hBa_0 : Bx ((w.alloc (Obj.cells #[.int .i64 a.kind, .int .i64 a.k, (.slice Aa1 a.x.monos.length ca1), (.slice Aa2 a.y.monos.length ca2)] 30)).alloc (Obj.cells #[.int .i64 b.kind, .int .i64 b.k, (.slice Ab1 b.x.monos.length cb1), (.slice Ab2 b.y.monos.length cb2)] 30)) (w.heap.size) [.int .i64 a.kind, .int .i64 a.k, (.slice Aa1 a.x.monos.length ca1), (.slice Aa2 a.y.monos.length ca2)] := (by have := (Bx.alloc (Bx.new w #[.int .i64 a.kind, .int .i64 a.k, (.slice Aa1 a.x.monos.length ca1), (.slice Aa2 a.y.monos.length ca2)] 30) (by simp) #[.int .i64 b.kind, .int .i64 b.k, (.slice Ab1 b.x.monos.length cb1), (.slice Ab2 b.y.monos.length cb2)] 30); simpa using this)
    have hFa_0 : ∀ oo, (((w.alloc (Obj.cells #[.int .i64 a.kind, .int .i64 a.k, (.slice Aa1 a.x.monos.length ca1), (.slice Aa2 a.y.monos.length ca2)] 30)).alloc (Obj.cells #[.int .i64 b.kind, .int .i64 b.k, (.slice Ab1 b.x.monos.length cb1), (.slice Ab2 b.y.monos.length cb2)] 30))).frozen? ⟨w.heap.size, oo, none⟩ = false := fun oo => by simp
    have hBb_0 : Bx ((w.alloc (Obj.cells #[.int .i64 a.kind, .int .i64 a.k, (.slice Aa1 a.x.monos.length ca1), (.slice Aa2 a.y.monos.length ca2)] 30)).alloc (Obj.cells #[.int .i64 b.kind, .int .i64 b.k, (.slice Ab1 b.x.monos.length cb1), (.slice Ab2 b.y.monos.length cb2)] 30)) (w.heap.size + 1) [.int .i64 b.kind, .int .i64 b.k, (.slice Ab1 b.x.monos.length cb1), (.slice Ab2 b.y.monos.length cb2)] := (by have := (Bx.new (w.alloc (Obj.cells #[.int .i64 a.kind, .int .i64 a.k, (.slice Aa1 a.x.monos.length ca1), (.slice Aa2 a.y.monos.length ca2)] 30)) #[.int .i64 b.kind, .int .i64 b.k, (.slice Ab1 b.x.monos.length cb1), (.slice Ab2 b.y.monos.length cb2)] 30); simpa using this)
    have hFb_0 : ∀ oo, (((w.alloc (Obj.cells #[.int .i64 a.kind, .int .i64 a.k, (.slice Aa1 a.x.monos.length ca1), (.slice Aa2 a.y.monos.length ca2)] 30)).alloc (Obj.cells #[.int .i64 b.kind, .int .i64 b.k, (.slice Ab1 b.x.monos.length cb1), (.slice Ab2 b.y.monos.length cb2)] 30))).frozen? ⟨w.heap.size + 1, oo, none⟩ = false := fun oo => by simp
    generalize ((w.alloc (Obj.cells #[.int .i64 a.kind, .int .i64 a.k, (.slice Aa1 a.x.monos.length ca1), (.slice Aa2 a.y.monos.length ca2)] 30)).alloc (Obj.cells #[.int .i64 b.kind, .int .i64 b.k, (.slice Ab1 b.x.monos.length cb1), (.slice Ab2 b.y.monos.length cb2)] 30)) = w0 at *
    have ya : w.heap.size < w0.heap.size := by omega
    have xa0 := hBa_0 0 _ rfl
    have xa1 := hBa_0 1 _ rfl
    have xa2 := hBa_0 2 _ rfl
    have xa3 := hBa_0 3 _ rfl
    have yb : w.heap.size + 1 < w0.heap.size := by omega
    have xb0 := hBb_0 0 _ rfl
    have xb1 := hBb_0 1 _ rfl
    have xb2 := hBb_0 2 _ rfl
    have xb3 := hBb_0 3 _ rfl
    go_wp2
    go_ret
    exact ⟨by rw [HV.out]; rfl, Ext.hold he0⟩
  cases r2 : decide (a.x = b.x)
  · 
    have HV := hide (show decide (a = b) = false by rw [HD.out, r0, r1, r2]; rfl)
    go_enter Try.func45, Try.ntmps45
    go_upto_region 1 with fail
    have he0 : Ext w ((w.alloc (Obj.cells #[.int .i64 a.kind, .int .i64 a.k, (.slice Aa1 a.x.monos.length ca1), (.slice Aa2 a.y.monos.length ca2)] 30)).alloc (Obj.cells #[.int .i64 b.kind, .int .i64 b.k, (.slice Ab1 b.x.monos.length cb1), (.slice Ab2 b.y.monos.length cb2)] 30)) := (Ext.auto)
    have hs0 : w.heap.size + 2 ≤ (((w.alloc (Obj.cells #[.int .i64 a.kind, .int .i64 a.k, (.slice Aa1 a.x.monos.length ca1), (.slice Aa2 a.y.monos.length ca2)] 30)).alloc (Obj.cells #[.int .i64 b.kind, .int .i64 b.k, (.slice Ab1 b.x.monos.length cb1), (.slice Ab2 b.y.monos.length cb2)] 30))).heap.size := by simp
    have hq0 := hide (show (((w.alloc (Obj.cells #[.int .i64 a.kind, .int .i64 a.k, (.slice Aa1 a.x.monos.length ca1), (.slice Aa2 a.y.monos.length ca2)] 30)).alloc (Obj.cells #[.int .i64 b.kind, .int .i64 b.k, (.slice Ab1 b.x.monos.length cb1), (.slice Ab2 b.y.monos.length cb2)] 30))).heap.size = w.heap.size + 2 by simp)
    have hBa_0 : Bx ((w.alloc (Obj.cells #[.int .i64 a.kind, .int .i64 a.k, (.slice Aa1 a.x.monos.length ca1), (.slice Aa2 a.y.monos.length ca2)] 30)).alloc (Obj.cells #[.int .i64 b.kind, .int .i64 b.k, (.slice Ab1 b.x.monos.length cb1), (.slice Ab2 b.y.monos.length cb2)] 30)) (w.heap.size) [.int .i64 a.kind, .int .i64 a.k, (.slice Aa1 a.x.monos.length ca1), (.slice Aa2 a.y.monos.length ca2)] := (by have := (Bx.alloc (Bx.new w #[.int .i64 a.kind, .int .i64 a.k, (.slice Aa1 a.x.monos.length ca1), (.slice Aa2 a.y.monos.length ca2)] 30) (by simp) #[.int .i64 b.kind, .int .i64 b.k, (.slice Ab1 b.x.monos.length cb1), (.slice Ab2 b.y.monos.length cb2)] 30); simpa using this)
    have hFa_0 : ∀ oo, (((w.alloc (Obj.cells #[.int .i64 a.kind, .int .i64 a.k, (.slice Aa1 a.x.monos.length ca1), (.slice Aa2 a.y.monos.length ca2)] 30)).alloc (Obj.cells #[.int .i64 b.kind, .int .i64 b.k, (.slice Ab1 b.x.monos.length cb1), (.slice Ab2 b.y.monos.length cb2)] 30))).frozen? ⟨w.heap.size, oo, none⟩ = false := fun oo => by simp
    have hBb_0 : Bx ((w.alloc (Obj.cells #[.int .i64 a.kind, .int .i64 a.k, (.slice Aa1 a.x.monos.length ca1), (.slice Aa2 a.y.monos.length ca2)] 30)).alloc (Obj.cells #[.int .i64 b.kind, .int .i64 b.k, (.slice Ab1 b.x.monos.length cb1), (.slice Ab2 b.y.monos.length cb2)] 30)) (w.heap.size + 1) [.int .i64 b.kind, .int .i64 b.k, (.slice Ab1 b.x.monos.length cb1), (.slice Ab2 b.y.monos.length cb2)] := (by have := (Bx.new (w.alloc (Obj.cells #[.int .i64 a.kind, .int .i64 a.k, (.slice Aa1 a.x.monos.length ca1), (.slice Aa2 a.y.monos.length ca2)] 30)) #[.int .i64 b.kind, .int .i64 b.k, (.slice Ab1 b.x.monos.length cb1), (.slice Ab2 b.y.monos.length cb2)] 30); simpa using this)
    have hFb_0 : ∀ oo, (((w.alloc (Obj.cells #[.int .i64 a.kind, .int .i64 a.k, (.slice Aa1 a.x.monos.length ca1), (.slice Aa2 a.y.monos.length ca2)] 30)).alloc (Obj.cells #[.int .i64 b.kind, .int .i64 b.k, (.slice Ab1 b.x.monos.length cb1), (.slice Ab2 b.y.monos.length cb2)] 30))).frozen? ⟨w.heap.size + 1, oo, none⟩ = false := fun oo => by simp
    generalize ((w.alloc (Obj.cells #[.int .i64 a.kind, .int .i64 a.k, (.slice Aa1 a.x.monos.length ca1), (.slice Aa2 a.y.monos.length ca2)] 30)).alloc (Obj.cells #[.int .i64 b.kind, .int .i64 b.k, (.slice Ab1 b.x.monos.length cb1), (.slice Ab2 b.y.monos.length cb2)] 30)) = w0 at *
    have ya : w.heap.size < w0.heap.size := by omega
    have xa0 := hBa_0 0 _ rfl
    have xa1 := hBa_0 1 _ rfl
    have xa2 := hBa_0 2 _ rfl
    have xa3 := hBa_0 3 _ rfl
    have yb : w.heap.size + 1 < w0.heap.size := by omega
    have xb0 := hBb_0 0 _ rfl
    have xb1 := hBb_0 1 _ rfl
    have xb2 := hBb_0 2 _ rfl
    have xb3 := hBb_0 3 _ rfl
    go_wp2_with fail
    refine (specPolOrder_any a.x b.x _ _ _ (ha1.ext (Ext.trans he0 Ext.auto)) (hb1.ext (Ext.trans he0 Ext.auto))).mono ?_
    rintro e w1 ⟨rfl, hy⟩
    clear xa0 xa1 xa2 xa3 ya
    clear xb0 xb1 xb2 xb3 yb
    have hx1 : Ext w0 w1 := Ext.trans (Ext.auto) hy
    have hs1 := hx1.size
    have he1 : Ext w w1 := he0.trans hx1
    have hBa_1 : Bx w1 (w.heap.size) [.int .i64 a.kind, .int .i64 a.k, (.slice Aa1 a.x.monos.length ca1), (.slice Aa2 a.y.monos.length ca2)] := hx1.bx hBa_0 (by omega)
    have hFa_1 : ∀ oo, w1.frozen? ⟨w.heap.size, oo, none⟩ = false := fun oo => (hx1.frozen (by omega)).trans (hFa_0 oo)
    have hBb_1 : Bx w1 (w.heap.size + 1) [.int .i64 b.kind, .int .i64 b.k, (.slice Ab1 b.x.monos.length cb1), (.slice Ab2 b.y.monos.length cb2)] := hx1.bx hBb_0 (by omega)
    have hFb_1 : ∀ oo, w1.frozen? ⟨w.heap.size + 1, oo, none⟩ = false := fun oo => (hx1.frozen (by omega)).trans (hFb_0 oo)
    clear hBa_0 hFa_0 hBb_0 hFb_0
    clear hy
    have ya : w.heap.size < w1.heap.size := by omega
    have xa0 := hBa_1 0 _ rfl
    have xa1 := hBa_1 1 _ rfl
    have xa2 := hBa_1 2 _ rfl
    have xa3 := hBa_1 3 _ rfl
    have yb : w.heap.size + 1 < w1.heap.size := by omega
    have xb0 := hBb_1 0 _ rfl
    have xb1 := hBb_1 1 _ rfl
    have xb2 := hBb_1 2 _ rfl
    have xb3 := hBb_1 3 _ rfl
    have ho1 := polOrd_same a.x b.x
    rw [r2] at ho1
    go_wp2
    go_ret
    exact ⟨by rw [HV.out]; rfl, Ext.hold he1⟩
  cases r3 : decide (a.y = b.y)
  · 
    have HV := hide (show decide (a = b) = false by rw [HD.out, r0, r1, r2, r3]; rfl)
    go_enter Try.func45, Try.ntmps45
    go_upto_region 1 with fail
    have he0 : Ext w ((w.alloc (Obj.cells #[.int .i64 a.kind, .int .i64 a.k, (.slice Aa1 a.x.monos.length ca1), (.slice Aa2 a.y.monos.length ca2)] 30)).alloc (Obj.cells #[.int .i64 b.kind, .int .i64 b.k, (.slice Ab1 b.x.monos.length cb1), (.slice Ab2 b.y.monos.length cb2)] 30)) := (Ext.auto)
    have hs0 : w.heap.size + 2 ≤ (((w.alloc (Obj.cells #[.int .i64 a.kind, .int .i64 a.k, (.slice Aa1 a.x.monos.length ca1), (.slice Aa2 a.y.monos.length ca2)] 30)).alloc (Obj.cells #[.int .i64 b.kind, .int .i64 b.k, (.slice Ab1 b.x.monos.length cb1), (.slice Ab2 b.y.monos.length cb2)] 30))).heap.size := by simp
    have hq0 := hide (show (((w.alloc (Obj.cells #[.int .i64 a.kind, .int .i64 a.k, (.slice Aa1 a.x.monos.length ca1), (.slice Aa2 a.y.monos.length ca2)] 30)).alloc (Obj.cells #[.int .i64 b.kind, .int .i64 b.k, (.slice Ab1 b.x.monos.length cb1), (.slice Ab2 b.y.monos.length cb2)] 30))).heap.size = w.heap.size + 2 by simp)
    have hBa_0 : Bx ((w.alloc (Obj.cells #[.int .i64 a.kind, .int .i64 a.k, (.slice Aa1 a.x.monos.length ca1), (.slice Aa2 a.y.monos.length ca2)] 30)).alloc (Obj.cells #[.int .i64 b.kind, .int .i64 b.k, (.slice Ab1 b.x.monos.length cb1), (.slice Ab2 b.y.monos.length cb2)] 30)) (w.heap.size) [.int .i64 a.kind, .int .i64 a.k, (.slice Aa1 a.x.monos.length ca1), (.slice Aa2 a.y.monos.length ca2)] := (by have := (Bx.alloc (Bx.new w #[.int .i64 a.kind, .int .i64 a.k, (.slice Aa1 a.x.monos.length ca1), (.slice Aa2 a.y.monos.length ca2)] 30) (by simp) #[.int .i64 b.kind, .int .i64 b.k, (.slice Ab1 b.x.monos.length cb1), (.slice Ab2 b.y.monos.length cb2)] 30); simpa using this)
    have hFa_0 : ∀ oo, (((w.alloc (Obj.cells #[.int .i64 a.kind, .int .i64 a.k, (.slice Aa1 a.x.monos.length ca1), (.slice Aa2 a.y.monos.length ca2)] 30)).alloc (Obj.cells #[.int .i64 b.kind, .int .i64 b.k, (.slice Ab1 b.x.monos.length cb1), (.slice Ab2 b.y.monos.length cb2)] 30))).frozen? ⟨w.heap.size, oo, none⟩ = false := fun oo => by simp
    have hBb_0 : Bx ((w.alloc (Obj.cells #[.int .i64 a.kind, .int .i64 a.k, (.slice Aa1 a.x.monos.length ca1), (.slice Aa2 a.y.monos.length ca2)] 30)).alloc (Obj.cells #[.int .i64 b.kind, .int .i64 b.k, (.slice Ab1 b.x.monos.length cb1), (.slice Ab2 b.y.monos.length cb2)] 30)) (w.heap.size + 1) [.int .i64 b.kind, .int .i64 b.k, (.slice Ab1 b.x.monos.length cb1), (.slice Ab2 b.y.monos.length cb2)] := (by have := (Bx.new (w.alloc (Obj.cells #[.int .i64 a.kind, .int .i64 a.k, (.slice Aa1 a.x.monos.length ca1), (.slice Aa2 a.y.monos.length ca2)] 30)) #[.int .i64 b.kind, .int .i64 b.k, (.slice Ab1 b.x.monos.length cb1), (.slice Ab2 b.y.monos.length cb2)] 30); simpa using this)
    have hFb_0 : ∀ oo, (((w.alloc (Obj.cells #[.int .i64 a.kind, .int .i64 a.k, (.slice Aa1 a.x.monos.length ca1), (.slice Aa2 a.y.monos.length ca2)] 30)).alloc (Obj.cells #[.int .i64 b.kind, .int .i64 b.k, (.slice Ab1 b.x.monos.length cb1), (.slice Ab2 b.y.monos.length cb2)] 30))).frozen? ⟨w.heap.size + 1, oo, none⟩ = false := fun oo => by simp
    generalize ((w.alloc (Obj.cells #[.int .i64 a.kind, .int .i64 a.k, (.slice Aa1 a.x.monos.length ca1), (.slice Aa2 a.y.monos.length ca2)] 30)).alloc (Obj.cells #[.int .i64 b.kind, .int .i64 b.k, (.slice Ab1 b.x.monos.length cb1), (.slice Ab2 b.y.monos.length cb2)] 30)) = w0 at *
    have ya : w.heap.size < w0.heap.size := by omega
    have xa0 := hBa_0 0 _ rfl
    have xa1 := hBa_0 1 _ rfl
    have xa2 := hBa_0 2 _ rfl
    have xa3 := hBa_0 3 _ rfl
    have yb : w.heap.size + 1 < w0.heap.size := by omega
    have xb0 := hBb_0 0 _ rfl
    have xb1 := hBb_0 1 _ rfl
    have xb2 := hBb_0 2 _ rfl
    have xb3 := hBb_0 3 _ rfl
    go_wp2_with fail
    refine (specPolOrder_any a.x b.x _ _ _ (ha1.ext (Ext.trans he0 Ext.auto)) (hb1.ext (Ext.trans he0 Ext.auto))).mono ?_
    rintro e w1 ⟨rfl, hy⟩
    clear xa0 xa1 xa2 xa3 ya
    clear xb0 xb1 xb2 xb3 yb
    have hx1 : Ext w0 w1 := Ext.trans (Ext.auto) hy
    have hs1 := hx1.size
    have he1 : Ext w w1 := he0.trans hx1
    have hBa_1 : Bx w1 (w.heap.size) [.int .i64 a.kind, .int .i64 a.k, (.slice Aa1 a.x.monos.length ca1), (.slice Aa2 a.y.monos.length ca2)] := hx1.bx hBa_0 (by omega)
    have hFa_1 : ∀ oo, w1.frozen? ⟨w.heap.size, oo, none⟩ = false := fun oo => (hx1.frozen (by omega)).trans (hFa_0 oo)
    have hBb_1 : Bx w1 (w.heap.size + 1) [.int .i64 b.kind, .int .i64 b.k, (.slice Ab1 b.x.monos.length cb1), (.slice Ab2 b.y.monos.length cb2)] := hx1.bx hBb_0 (by omega)
    have hFb_1 : ∀ oo, w1.frozen? ⟨w.heap.size + 1, oo, none⟩ = false := fun oo => (hx1.frozen (by omega)).trans (hFb_0 oo)
    clear hBa_0 hFa_0 hBb_0 hFb_0
    clear hy
    have ya : w.heap.size < w1.heap.size := by omega
    have xa0 := hBa_1 0 _ rfl
    have xa1 := hBa_1 1 _ rfl
    have xa2 := hBa_1 2 _ rfl
    have xa3 := hBa_1 3 _ rfl
    have yb : w.heap.size + 1 < w1.heap.size := by omega
    have xb0 := hBb_1 0 _ rfl
    have xb1 := hBb_1 1 _ rfl
    have xb2 := hBb_1 2 _ rfl
    have xb3 := hBb_1 3 _ rfl
    have ho1 := polOrd_same a.x b.x
    rw [r2] at ho1
    go_wp2_with fail
    refine (specPolOrder_any a.y b.y _ _ _ (ha2.ext (Ext.trans he1 Ext.auto)) (hb2.ext (Ext.trans he1 Ext.auto))).mono ?_
    rintro e w2 ⟨rfl, hy⟩
    clear xa0 xa1 xa2 xa3 ya
    clear xb0 xb1 xb2 xb3 yb
    have hx2 : Ext w1 w2 := Ext.trans (Ext.auto) hy
    have hs2 := hx2.size
    have he2 : Ext w w2 := he1.trans hx2
    have hBa_2 : Bx w2 (w.heap.size) [.int .i64 a.kind, .int .i64 a.k, (.slice Aa1 a.x.monos.length ca1), (.slice Aa2 a.y.monos.length ca2)] := hx2.bx hBa_1 (by omega)
    have hFa_2 : ∀ oo, w2.frozen? ⟨w.heap.size, oo, none⟩ = false := fun oo => (hx2.frozen (by omega)).trans (hFa_1 oo)
    have hBb_2 : Bx w2 (w.heap.size + 1) [.int .i64 b.kind, .int .i64 b.k, (.slice Ab1 b.x.monos.length cb1), (.slice Ab2 b.y.monos.length cb2)] := hx2.bx hBb_1 (by omega)
    have hFb_2 : ∀ oo, w2.frozen? ⟨w.heap.size + 1, oo, none⟩ = false := fun oo => (hx2.frozen (by omega)).trans (hFb_1 oo)
    clear hBa_1 hFa_1 hBb_1 hFb_1
    clear hy
    have ya : w.heap.size < w2.heap.size := by omega
    have xa0 := hBa_2 0 _ rfl
    have xa1 := hBa_2 1 _ rfl
    have xa2 := hBa_2 2 _ rfl
    have xa3 := hBa_2 3 _ rfl
    have yb : w.heap.size + 1 < w2.heap.size := by omega
    have xb0 := hBb_2 0 _ rfl
    have xb1 := hBb_2 1 _ rfl
    have xb2 := hBb_2 2 _ rfl
    have xb3 := hBb_2 3 _ rfl
    have ho2 := polOrd_same a.y b.y
    rw [r3] at ho2
    go_wp2
    go_ret
    exact ⟨by rw [HV.out]; rfl, Ext.hold he2⟩
  have HV := hide (show decide (a = b) = true by rw [HD.out, r0, r1, r2, r3]; rfl)
  go_enter Try.func45, Try.ntmps45
  go_upto_region 1 with fail
  have he0 : Ext w ((w.alloc (Obj.cells #[.int .i64 a.kind, .int .i64 a.k, (.slice Aa1 a.x.monos.length ca1), (.slice Aa2 a.y.monos.length ca2)] 30)).alloc (Obj.cells #[.int .i64 b.kind, .int .i64 b.k, (.slice Ab1 b.x.monos.length cb1), (.slice Ab2 b.y.monos.length cb2)] 30)) := (Ext.auto)
  have hs0 : w.heap.size + 2 ≤ (((w.alloc (Obj.cells #[.int .i64 a.kind, .int .i64 a.k, (.slice Aa1 a.x.monos.length ca1), (.slice Aa2 a.y.monos.length ca2)] 30)).alloc (Obj.cells #[.int .i64 b.kind, .int .i64 b.k, (.slice Ab1 b.x.monos.length cb1), (.slice Ab2 b.y.monos.length cb2)] 30))).heap.size := by simp
  have hq0 := hide (show (((w.alloc (Obj.cells #[.int .i64 a.kind, .int .i64 a.k, (.slice Aa1 a.x.monos.length ca1), (.slice Aa2 a.y.monos.length ca2)] 30)).alloc (Obj.cells #[.int .i64 b.kind, .int .i64 b.k, (.slice Ab1 b.x.monos.length cb1), (.slice Ab2 b.y.monos.length cb2)] 30))).heap.size = w.heap.size + 2 by simp)
  have hBa_0 : Bx ((w.alloc (Obj.cells #[.int .i64 a.kind, .int .i64 a.k, (.slice Aa1 a.x.monos.length ca1), (.slice Aa2 a.y.monos.length ca2)] 30)).alloc (Obj.cells #[.int .i64 b.kind, .int .i64 b.k, (.slice Ab1 b.x.monos.length cb1), (.slice Ab2 b.y.monos.length cb2)] 30)) (w.heap.size) [.int .i64 a.kind, .int .i64 a.k, (.slice Aa1 a.x.monos.length ca1), (.slice Aa2 a.y.monos.length ca2)] := (by have := (Bx.alloc (Bx.new w #[.int .i64 a.kind, .int .i64 a.k, (.slice Aa1 a.x.monos.length ca1), (.slice Aa2 a.y.monos.length ca2)] 30) (by simp) #[.int .i64 b.kind, .int .i64 b.k, (.slice Ab1 b.x.monos.length cb1), (.slice Ab2 b.y.monos.length cb2)] 30); simpa using this)
  have hFa_0 : ∀ oo, (((w.alloc (Obj.cells #[.int .i64 a.kind, .int .i64 a.k, (.slice Aa1 a.x.monos.length ca1), (.slice Aa2 a.y.monos.length ca2)] 30)).alloc (Obj.cells #[.int .i64 b.kind, .int .i64 b.k, (.slice Ab1 b.x.monos.length cb1), (.slice Ab2 b.y.monos.length cb2)] 30))).frozen? ⟨w.heap.size, oo, none⟩ = false := fun oo => by simp
  have hBb_0 : Bx ((w.alloc (Obj.cells #[.int .i64 a.kind, .int .i64 a.k, (.slice Aa1 a.x.monos.length ca1), (.slice Aa2 a.y.monos.length ca2)] 30)).alloc (Obj.cells #[.int .i64 b.kind, .int .i64 b.k, (.slice Ab1 b.x.monos.length cb1), (.slice Ab2 b.y.monos.length cb2)] 30)) (w.heap.size + 1) [.int .i64 b.kind, .int .i64 b.k, (.slice Ab1 b.x.monos.length cb1), (.slice Ab2 b.y.monos.length cb2)] := (by have := (Bx.new (w.alloc (Obj.cells #[.int .i64 a.kind, .int .i64 a.k, (.slice Aa1 a.x.monos.length ca1), (.slice Aa2 a.y.monos.length ca2)] 30)) #[.int .i64 b.kind, .int .i64 b.k, (.slice Ab1 b.x.monos.length cb1), (.slice Ab2 b.y.monos.length cb2)] 30); simpa using this)
  have hFb_0 : ∀ oo, (((w.alloc (Obj.cells #[.int .i64 a.kind, .int .i64 a.k, (.slice Aa1 a.x.monos.length ca1), (.slice Aa2 a.y.monos.length ca2)] 30)).alloc (Obj.cells #[.int .i64 b.kind, .int .i64 b.k, (.slice Ab1 b.x.monos.length cb1), (.slice Ab2 b.y.monos.length cb2)] 30))).frozen? ⟨w.heap.size + 1, oo, none⟩ = false := fun oo => by simp
  generalize ((w.alloc (Obj.cells #[.int .i64 a.kind, .int .i64 a.k, (.slice Aa1 a.x.monos.length ca1), (.slice Aa2 a.y.monos.length ca2)] 30)).alloc (Obj.cells #[.int .i64 b.kind, .int .i64 b.k, (.slice Ab1 b.x.monos.length cb1), (.slice Ab2 b.y.monos.length cb2)] 30)) = w0 at *
  have ya : w.heap.size < w0.heap.size := by omega
  have xa0 := hBa_0 0 _ rfl
  have xa1 := hBa_0 1 _ rfl
  have xa2 := hBa_0 2 _ rfl
  have xa3 := hBa_0 3 _ rfl
  have yb : w.heap.size + 1 < w0.heap.size := by omega
  have xb0 := hBb_0 0 _ rfl
  have xb1 := hBb_0 1 _ rfl
  have xb2 := hBb_0 2 _ rfl
  have xb3 := hBb_0 3 _ rfl
  go_wp2_with fail
  refine (specPolOrder_any a.x b.x _ _ _ (ha1.ext (Ext.trans he0 Ext.auto)) (hb1.ext (Ext.trans he0 Ext.auto))).mono ?_
  rintro e w1 ⟨rfl, hy⟩
  clear xa0 xa1 xa2 xa3 ya
  clear xb0 xb1 xb2 xb3 yb
  have hx1 : Ext w0 w1 := Ext.trans (Ext.auto) hy
  have hs1 := hx1.size
  have he1 : Ext w w1 := he0.trans hx1
  have hBa_1 : Bx w1 (w.heap.size) [.int .i64 a.kind, .int .i64 a.k, (.slice Aa1 a.x.monos.length ca1), (.slice Aa2 a.y.monos.length ca2)] := hx1.bx hBa_0 (by omega)
  have hFa_1 : ∀ oo, w1.frozen? ⟨w.heap.size, oo, none⟩ = false := fun oo => (hx1.frozen (by omega)).trans (hFa_0 oo)
  have hBb_1 : Bx w1 (w.heap.size + 1) [.int .i64 b.kind, .int .i64 b.k, (.slice Ab1 b.x.monos.length cb1), (.slice Ab2 b.y.monos.length cb2)] := hx1.bx hBb_0 (by omega)
  have hFb_1 : ∀ oo, w1.frozen? ⟨w.heap.size + 1, oo, none⟩ = false := fun oo => (hx1.frozen (by omega)).trans (hFb_0 oo)
  clear hBa_0 hFa_0 hBb_0 hFb_0
  clear hy
  have ya : w.heap.size < w1.heap.size := by omega
  have xa0 := hBa_1 0 _ rfl
  have xa1 := hBa_1 1 _ rfl
  have xa2 := hBa_1 2 _ rfl
  have xa3 := hBa_1 3 _ rfl
  have yb : w.heap.size + 1 < w1.heap.size := by omega
  have xb0 := hBb_1 0 _ rfl
  have xb1 := hBb_1 1 _ rfl
  have xb2 := hBb_1 2 _ rfl
  have xb3 := hBb_1 3 _ rfl
  have ho1 := polOrd_same a.x b.x
  rw [r2] at ho1
  go_wp2_with fail
  refine (specPolOrder_any a.y b.y _ _ _ (ha2.ext (Ext.trans he1 Ext.auto)) (hb2.ext (Ext.trans he1 Ext.auto))).mono ?_
  rintro e w2 ⟨rfl, hy⟩
  clear xa0 xa1 xa2 xa3 ya
  clear xb0 xb1 xb2 xb3 yb
  have hx2 : Ext w1 w2 := Ext.trans (Ext.auto) hy
  have hs2 := hx2.size
  have he2 : Ext w w2 := he1.trans hx2
  have hBa_2 : Bx w2 (w.heap.size) [.int .i64 a.kind, .int .i64 a.k, (.slice Aa1 a.x.monos.length ca1), (.slice Aa2 a.y.monos.length ca2)] := hx2.bx hBa_1 (by omega)
  have hFa_2 : ∀ oo, w2.frozen? ⟨w.heap.size, oo, none⟩ = false := fun oo => (hx2.frozen (by omega)).trans (hFa_1 oo)
  have hBb_2 : Bx w2 (w.heap.size + 1) [.int .i64 b.kind, .int .i64 b.k, (.slice Ab1 b.x.monos.length cb1), (.slice Ab2 b.y.monos.length cb2)] := hx2.bx hBb_1 (by omega)
  have hFb_2 : ∀ oo, w2.frozen? ⟨w.heap.size + 1, oo, none⟩ = false := fun oo => (hx2.frozen (by omega)).trans (hFb_1 oo)
  clear hBa_1 hFa_1 hBb_1 hFb_1
  clear hy
  have ya : w.heap.size < w2.heap.size := by omega
  have xa0 := hBa_2 0 _ rfl
  have xa1 := hBa_2 1 _ rfl
  have xa2 := hBa_2 2 _ rfl
  have xa3 := hBa_2 3 _ rfl
  have yb : w.heap.size + 1 < w2.heap.size := by omega
  have xb0 := hBb_2 0 _ rfl
  have xb1 := hBb_2 1 _ rfl
  have xb2 := hBb_2 2 _ rfl
  have xb3 := hBb_2 3 _ rfl
  have ho2 := polOrd_same a.y b.y
  rw [r3] at ho2
  go_wp2
  go_ret
  exact ⟨by rw [HV.out]; rfl, Ext.hold he2⟩

end Go.Proofs.Ytmbclopkopfngaa
