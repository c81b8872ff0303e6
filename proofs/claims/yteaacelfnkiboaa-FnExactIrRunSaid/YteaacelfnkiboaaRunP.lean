/-
  A run through a piece of code: what both sides give.
-/
import Derived.Test.YteaacelfnkiboaaRunILib
import Derived.Test.YteaacelfnkiboaaBesideLib
namespace Go.Proofs.Yteaacelfnkiboaa
open Go.RowKit

set_option linter.unusedVariables false
set_option linter.unusedSimpArgs false
set_option maxRecDepth 100000

theorem Bx.store10 {w : World} {b : Nat} {cs : List Value} (h : Bx w b cs) (hl : cs.length = 10) (a0 a1 a2 a3 a4 a5 a6 a7 a8 a9 : Value) : Bx (((((((((((w.setCell ⟨b, 0, none⟩ a0).setCell ⟨b, 1, none⟩ a1).setCell ⟨b, 2, none⟩ a2).setCell ⟨b, 3, none⟩ a3).setCell ⟨b, 4, none⟩ a4).setCell ⟨b, 5, none⟩ a5).setCell ⟨b, 6, none⟩ a6).setCell ⟨b, 7, none⟩ a7).setCell ⟨b, 8, none⟩ a8).setCell ⟨b, 9, none⟩ a9)) b [a0, a1, a2, a3, a4, a5, a6, a7, a8, a9] := by
  match cs, hl with
  | [x0, x1, x2, x3, x4, x5, x6, x7, x8, x9], _ =>
    have h0 := Bx.put h (j := 0) (by simp) a0
    have h1 := Bx.put h0 (j := 1) (by simp) a1
    have h2 := Bx.put h1 (j := 2) (by simp) a2
    have h3 := Bx.put h2 (j := 3) (by simp) a3
    have h4 := Bx.put h3 (j := 4) (by simp) a4
    have h5 := Bx.put h4 (j := 5) (by simp) a5
    have h6 := Bx.put h5 (j := 6) (by simp) a6
    have h7 := Bx.put h6 (j := 7) (by simp) a7
    have h8 := Bx.put h7 (j := 8) (by simp) a8
    have h9 := Bx.put h8 (j := 9) (by simp) a9
    simpa using h9
theorem Mach.sets10 {e : TypeId} {lo : Nat} {X : List Nat} {w : World} {g1 o1 c1 g2 o2 c2 : Nat} {v3 v4 : Value} {m : MchMach} (h : Mach e lo X w g1 o1 c1 g2 o2 c2 v3 v4 m) {b : Nat} (hb : b ∈ X) (a0 a1 a2 a3 a4 a5 a6 a7 a8 a9 : Value) :
    Mach e lo X (((((((((((w.setCell ⟨b, 0, none⟩ a0).setCell ⟨b, 1, none⟩ a1).setCell ⟨b, 2, none⟩ a2).setCell ⟨b, 3, none⟩ a3).setCell ⟨b, 4, none⟩ a4).setCell ⟨b, 5, none⟩ a5).setCell ⟨b, 6, none⟩ a6).setCell ⟨b, 7, none⟩ a7).setCell ⟨b, 8, none⟩ a8).setCell ⟨b, 9, none⟩ a9)) g1 o1 c1 g2 o2 c2 v3 v4 m :=
  (((((((((h.far hb a0).far hb a1).far hb a2).far hb a3).far hb a4).far hb a5).far hb a6).far hb a7).far hb a8).far hb a9

def IrPost (w : World) (m : MchMach) (ok : Bool) (e : Ending) (w' : World) : Prop := ∃ (r1 r2 r3 r4 : Value) (F1 F2 F3 F4 : List Nat), e = .returned (.tuple #[.agg #[r1, .int .i64 m.pc, r2, .int .i64 m.save, .bool m.lets, .bool m.waits, .int .i64 m.halt, r3, r4, .int .i64 m.count], .bool ok]) ∧ OwnSl w' r1 m.regs F1 ∧ OwnSl w' r2 m.mem F2 ∧ OwnSl w' r3 m.ins F3 ∧ OwnSl w' r4 m.outs F4 ∧ Fr w w' (F1 ++ F2 ++ F3 ++ F4) ∧ Ext w w'

end Go.Proofs.Yteaacelfnkiboaa
