/-
  The reader of a drawing. No program in sight.
-/
import Derived.Test.YteaacelfnkiboaaMachLib
namespace Go.Proofs.Yteaacelfnkiboaa
open Go.RowKit

set_option linter.unusedVariables false
set_option linter.unusedSimpArgs false
set_option maxRecDepth 100000

/-- The reader of a drawing: its bytes, its place (at most P), in the block rb below base. -/
structure RdrC (rb base P : Nat) (w : World) (A : Option Addr) (c p : Nat) (code : List UInt8) : Prop where
  bx : Bx w rb [.slice A code.length c, .int .i64 (p : Int)]
  fz : ∀ oo, w.frozen? ⟨rb, oo, none⟩ = false
  le : p ≤ P
  lt : rb < base
  bs : base ≤ w.heap.size
  sl : Sl w (fun b => b < base ∧ b ≠ rb) (.slice A code.length c) code
  ln : code.length ≤ 2000
def Rdr (rb base P : Nat) (w : World) : Prop := ∃ A c p code, RdrC rb base P w A c p code
theorem RdrC.turn {rb base P : Nat} {w w' : World} {A : Option Addr} {c p : Nat} {code : List UInt8} {F : List Nat} (h : RdrC rb base P w A c p code) (k : Turn F w w') (hF : ∀ x, x ∈ F → base ≤ x) : RdrC rb base P w' A c p code :=
  have hlt : ∀ x, x < base → x < w.heap.size ∧ x ∉ F := fun x hx => ⟨Nat.lt_of_lt_of_le hx h.bs, fun hm => by have := hF x hm; omega⟩
  { bx := k.bx h.bx (hlt rb h.lt).1 (hlt rb h.lt).2
    fz := fun oo => (k.frozen (hlt rb h.lt).1 (hlt rb h.lt).2).trans (h.fz oo)
    le := h.le, lt := h.lt, bs := Nat.le_trans h.bs k.size
    sl := h.sl.turn k (fun x hx => hlt x hx.1)
    ln := h.ln }
theorem Rdr.turn {rb base P : Nat} {w w' : World} {F : List Nat} (h : Rdr rb base P w) (k : Turn F w w') (hF : ∀ x, x ∈ F → base ≤ x) : Rdr rb base P w' := by
  obtain ⟨A, c, p, code, h⟩ := h
  exact ⟨A, c, p, code, h.turn k hF⟩
theorem Rdr.ext {rb base P : Nat} {w w' : World} (h : Rdr rb base P w) (k : Ext w w') : Rdr rb base P w' := h.turn (Turn.of_ext k []) (by simp)
theorem Rdr.up {rb base P P' : Nat} {w : World} (h : Rdr rb base P w) (hP : P ≤ P') : Rdr rb base P' w := by
  obtain ⟨A, c, p, code, h⟩ := h
  exact ⟨A, c, p, code, { h with le := Nat.le_trans h.le hP }⟩
theorem Rdr.lt {rb base P : Nat} {w : World} (h : Rdr rb base P w) : rb < base ∧ base ≤ w.heap.size := by
  obtain ⟨A, c, p, code, h⟩ := h
  exact ⟨h.lt, h.bs⟩
/-- The place goes on. -/
theorem RdrC.next {rb base P : Nat} {w : World} {A : Option Addr} {c p : Nat} {code : List UInt8} (h : RdrC rb base P w A c p code) : RdrC rb base (P + 1) (w.setCell ⟨rb, 1, none⟩ (.int .i64 ((p + 1 : Nat) : Int))) A c (p + 1) code :=
  { bx := by have := Bx.put h.bx (j := 1) (by simp) (.int .i64 ((p + 1 : Nat) : Int)); simpa using this
    fz := fz_set h.fz _ _
    le := by have := h.le; omega
    lt := h.lt, bs := by simpa using h.bs
    sl := h.sl.turn ((Turn.refl [rb] w).set (.inl (by simp)) _) (fun x hx => ⟨Nat.lt_of_lt_of_le hx.1 h.bs, by simpa using hx.2⟩)
    ln := h.ln }
theorem RdrC.drew {rb base P : Nat} {w : World} {A : Option Addr} {c p : Nat} {code : List UInt8} (h : RdrC rb base P w A c p code) : RdrC rb base P w.drew A c p code := h.turn (Turn.of_ext (Ext.refl w).drew []) (by simp)
/-- What a pick may give. -/
def Picked (n v : Int) : Prop := 0 ≤ v ∧ (v < n ∨ (n < 1 ∧ v = 0))

end Go.Proofs.Yteaacelfnkiboaa
