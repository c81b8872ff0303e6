/-
  A step of a machine: what both sides need.
-/
import Derived.Test.YtokibcicoomceaaDoorMachLib
import Derived.Test.YtokibcicoomceaaDoorMClone
import Derived.Test.YtokibcicoomceaaDoorMachOk
import Derived.Test.YtokibcicoomceaaDoorInsI
namespace Go.Proofs.YtokibcicoomceaaDoor
open Go.RowKit

set_option linter.unusedVariables false
set_option linter.unusedSimpArgs false
set_option maxRecDepth 100000

theorem mSample_same (m : MchMach) (irq : Bool) : (mSample m irq).regs = m.regs ∧ (mSample m irq).mem = m.mem ∧ (mSample m irq).ins = m.ins ∧ (mSample m irq).outs = m.outs ∧ (mSample m irq).count = m.count := by
  unfold mSample
  split <;> exact ⟨rfl, rfl, rfl, rfl, rfl⟩
theorem insTake_form (n : Int) : ∃ (op : Int) (D a : Nat) (k : Int), insTake n = ⟨op, (D : Int), (a : Int), k⟩ ∧ (op = 0 ∨ op = 1 ∨ op = 2 ∨ op = 3 ∨ op = 4 ∨ op = 5 ∨ op = 6 ∨ op = 7 ∨ op = 8 ∨ op = 9 ∨ op = 10 ∨ op = 11 ∨ op = 12 ∨ op = 13 ∨ op = 14 ∨ op = 15) ∧ D < 4 ∧ a < 4 ∧ 0 ≤ k ∧ k ≤ 255 ∧ (3 ≤ op → op ≤ 7 → k < 4) := by
  by_cases h : insTakeB n = true
  · have hi : insOkB (insOf n) = true := by unfold insTakeB at h; simp only [Bool.and_eq_true] at h; exact h.2
    have hr := insR hi
    obtain ⟨D, hD⟩ := Int.eq_ofNat_of_zero_le hr.d0
    obtain ⟨a, ha⟩ := Int.eq_ofNat_of_zero_le hr.a0
    have h1 := hr.o0
    have h2 := hr.o1
    have h3 := hr.d1
    have h4 := hr.a1
    refine ⟨(insOf n).op, D, a, (insOf n).k, ?_, by omega, by omega, by omega, hr.k0, hr.k1, hr.calc_⟩
    unfold insTake
    rw [if_pos h, ← hD, ← ha]
  · refine ⟨0, 0, 0, 0, ?_, .inl rfl, by omega, by omega, by omega, by omega, by omega⟩
    unfold insTake
    rw [if_neg h]
    rfl
theorem Bx.store10 {w : World} {b : Nat} {cs : List Value} (h : Bx w b cs) (hl : cs.length = 10) (a0 a1 a2 a3 a4 a5 a6 a7 a8 a9 : Value) : Bx (((((((((((w.setCell ⟨b, 0, none⟩ a0).setCell ⟨b, 1, none⟩ a1).setCell ⟨b, 2, none⟩ a2).setCell ⟨b, 3, none⟩ a3).setCell ⟨b, 4, none⟩ a4).setCell ⟨b, 5, none⟩ a5).setCell ⟨b, 6, none⟩ a6).setCell ⟨b, 7, none⟩ a7).setCell ⟨b, 8, none⟩ a8).setCell ⟨b, 9, none⟩ a9)) b [a0, a1, a2, a3, a4, a5, a6, a7, a8, a9] := by
  match cs, hl with
  | [x0, x1, x2, x3, x4, x5, x6, x7, x8, x9], _ =>
    have h0 := Bx.put h (j := 0) (by simp) a0
    have h1 := Bx.put h0 (j := 1) (by simp) a1
    have h2 := Bx.put h1 (j := 2) (by simp) a2
    have h3 := Bx.put h2 (j := 3) (by simp) a3
    have h4 := Bx.put h3 (j := 4) (by simp) a4
    have h5 := Bx.put h4 (j := 5) (by simp) a5
    have h6 := Bx.put h5 (j := 6) (by simp) a6
    have h7 := Bx.put h6 (j := 7) (by simp) a7
    have h8 := Bx.put h7 (j := 8) (by simp) a8
    have h9 := Bx.put h8 (j := 9) (by simp) a9
    simpa using h9
theorem Mach.sets10 {e : TypeId} {lo : Nat} {X : List Nat} {w : World} {g1 o1 c1 g2 o2 c2 : Nat} {v3 v4 : Value} {m : MchMach} (h : Mach e lo X w g1 o1 c1 g2 o2 c2 v3 v4 m) {b : Nat} (hb : b ∈ X) (a0 a1 a2 a3 a4 a5 a6 a7 a8 a9 : Value) :
    Mach e lo X (((((((((((w.setCell ⟨b, 0, none⟩ a0).setCell ⟨b, 1, none⟩ a1).setCell ⟨b, 2, none⟩ a2).setCell ⟨b, 3, none⟩ a3).setCell ⟨b, 4, none⟩ a4).setCell ⟨b, 5, none⟩ a5).setCell ⟨b, 6, none⟩ a6).setCell ⟨b, 7, none⟩ a7).setCell ⟨b, 8, none⟩ a8).setCell ⟨b, 9, none⟩ a9)) g1 o1 c1 g2 o2 c2 v3 v4 m :=
  (((((((((h.far hb a0).far hb a1).far hb a2).far hb a3).far hb a4).far hb a5).far hb a6).far hb a7).far hb a8).far hb a9

end Go.Proofs.YtokibcicoomceaaDoor
