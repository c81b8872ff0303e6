/-
  Whether a block of operations is valid, in plain words. No program in sight.
-/
import Derived.Test.YteaacelfnkiboaaWordPure
import Derived.Test.YteaacelfnkiboaaTy
namespace Go.Proofs.Yteaacelfnkiboaa
open Go.RowKit

set_option linter.unusedVariables false
set_option linter.unusedSimpArgs false
set_option maxRecDepth 100000

/-- A kind that yields a value. -/
def makesB (k : Int) : Bool := inB k 1 4 || k == 6
/-- An index of one of the first operations that yields a value. -/
def valB (ops : List IrOp) (x n : Int) : Bool := decide (0 ≤ x) && decide (x < n) && makesB (((ops[x.toNat]?).map IrOp.kind).getD 0)
def opOkB (ops : List IrOp) (o : IrOp) (n size : Int) : Bool :=
  if o.kind = 1 then o.x == 0 && o.y == 0 && wordB o.k && o.at_ == 0
  else if o.kind = 2 then o.x == 0 && o.y == 0 && inB o.k 0 3 && o.at_ == 0
  else if o.kind = 3 then valB ops o.x n && valB ops o.y n && inB o.k 1 5 && o.at_ == 0
  else if o.kind = 4 then valB ops o.x n && o.y == 0 && o.k == 0 && inB o.at_ 0 (size - 1)
  else if o.kind = 5 then valB ops o.x n && valB ops o.y n && o.k == 0 && inB o.at_ 0 (size - 1)
  else if o.kind = 6 then o.x == 0 && o.y == 0 && o.k == 0 && inB o.at_ 0 (size - 1)
  else if o.kind = 7 then valB ops o.x n && o.y == 0 && o.k == 0 && inB o.at_ 0 (size - 1)
  else if o.kind = 8 then valB ops o.x n && o.y == 0 && inB o.k 0 3 && o.at_ == 0
  else false
def endOkB (b : IrBlock) : Bool :=
  if b.fin = 1 then b.x == 0 && b.y == 0 && wordB b.k
  else if b.fin = 2 then valB b.ops b.x b.ops.length && b.y == 0 && b.k == 0
  else if b.fin = 3 ∨ b.fin = 4 then valB b.ops b.x b.ops.length && valB b.ops b.y b.ops.length && wordB b.k
  else false
/-- The first k operations are valid. -/
def okTo (ops : List IrOp) (size : Int) (k : Nat) : Bool := (List.range k).all fun j => match ops[j]? with | some o => opOkB ops o j size | none => true
/-- A block is valid. -/
def irOkB (b : IrBlock) : Bool := inB b.len 1 8 && inB b.pc 0 (64 - b.len) && decide (b.ops.length ≤ 48) && okTo b.ops b.len b.ops.length && endOkB b
theorem okTo_succ (ops : List IrOp) (size : Int) (k : Nat) (h : k < ops.length) : okTo ops size (k + 1) = (okTo ops size k && opOkB ops ops[k] k size) := by
  unfold okTo
  rw [List.range_succ, List.all_append]
  simp [List.getElem?_eq_getElem h]
theorem okTo_false (ops : List IrOp) (size : Int) (k : Nat) (h : k < ops.length) (h2 : opOkB ops ops[k] k size = false) : okTo ops size ops.length = false := by
  unfold okTo
  rw [List.all_eq_false]
  exact ⟨k, List.mem_range.2 h, by simp [List.getElem?_eq_getElem h, h2]⟩
theorem valB_yes {ops : List IrOp} {x n : Int} (h0 : 0 ≤ x) (h1 : x < n) (h : x.toNat < ops.length) : valB ops x n = makesB ops[x.toNat].kind := by
  unfold valB; simp [h0, h1, List.getElem?_eq_getElem h]
theorem valB_low {ops : List IrOp} {x n : Int} (h0 : x < 0) : valB ops x n = false := by
  unfold valB; rw [decide_eq_false (by omega)]; rfl
theorem valB_high {ops : List IrOp} {x n : Int} (h0 : n ≤ x) : valB ops x n = false := by
  unfold valB; rw [decide_eq_false (p := x < n) (by omega)]; simp
end Go.Proofs.Yteaacelfnkiboaa
