/-
  Instructions as operations, in plain words. No program in sight.
-/
import Derived.Test.YteaacelfnkiboaaBlkPure
namespace Go.Proofs.Yteaacelfnkiboaa
open Go.RowKit
set_option linter.unusedVariables false
set_option linter.unusedSimpArgs false

def oConst (k : Int) : IrOp := ⟨1, 0, 0, k, 0⟩
def oGet (k : Int) : IrOp := ⟨2, 0, 0, k, 0⟩
def oDo (k x y : Int) : IrOp := ⟨3, x, y, k, 0⟩
def oSet (k x : Int) : IrOp := ⟨8, x, 0, k, 0⟩
/-- The operations of an instruction, behind n others. -/
def lowOps (n : Int) (i : InsIns) (at_ : Int) : List IrOp :=
  if i.op = 1 then [oConst i.k, oSet i.d n]
  else if i.op = 2 then [oGet i.a, oSet i.d n]
  else if i.op = 8 then [oGet i.a, oConst (2 ^ i.k.toNat), oDo 3 n (n + 1), oSet i.d (n + 2)]
  else if i.op = 9 then [oGet i.a, oConst i.k, oDo 1 n (n + 1), ⟨4, n + 2, 0, 0, at_⟩, oSet i.d (n + 3)]
  else if i.op = 10 then [oGet i.a, oConst i.k, oDo 1 n (n + 1), oGet i.d, ⟨5, n + 2, n + 3, 0, at_⟩]
  else if i.op = 14 then [oGet i.d, ⟨7, n, 0, 0, at_⟩]
  else if i.op = 15 then [⟨6, 0, 0, 0, at_⟩, oSet i.d n]
  else if i.op = 11 ∨ i.op = 12 then [oGet i.d, oGet i.a]
  else if i.op = 13 then [oGet i.a]
  else [oGet i.a, oGet i.k, oDo (i.op - 2) n (n + 1), oSet i.d (n + 2)]
/-- A piece of code with an instruction more. -/
def lowStep (b : IrBlock) (i : InsIns) (at_ : Int) : IrBlock :=
  if i.op = 11 then { b with ops := b.ops ++ lowOps b.ops.length i at_, fin := 3, x := b.ops.length, y := b.ops.length + 1, k := i.k }
  else if i.op = 12 then { b with ops := b.ops ++ lowOps b.ops.length i at_, fin := 4, x := b.ops.length, y := b.ops.length + 1, k := i.k }
  else if i.op = 13 then { b with ops := b.ops ++ lowOps b.ops.length i at_, fin := 2, x := b.ops.length, k := 0 }
  else { b with ops := b.ops ++ lowOps b.ops.length i at_ }
def lowGo (b : IrBlock) : Nat → List InsIns → IrBlock
  | _, [] => b
  | n, i :: r => lowGo (lowStep b i n) (n + 1) r
def lowStart (pc : Int) (n : Nat) : IrBlock := ⟨pc, n, [], 1, 0, 0, pc + n⟩
def lowNone : IrBlock := ⟨0, 0, [], 0, 0, 0, 0⟩
def blkLower (pc : Int) (l : List InsIns) : IrBlock := if blkOkB pc l then lowGo (lowStart pc l.length) 0 l else lowNone
theorem lowStep_ops (b : IrBlock) (i : InsIns) (at_ : Int) : (lowStep b i at_).ops = b.ops ++ lowOps b.ops.length i at_ := by
  unfold lowStep
  split
  · rfl
  split
  · rfl
  split
  · rfl
  · rfl
theorem lowGo_snoc : ∀ (l : List InsIns) (b : IrBlock) (n : Nat) (i : InsIns), lowGo b n (l ++ [i]) = lowStep (lowGo b n l) i ((n + l.length : Nat) : Int)
  | [], b, n, i => by simp [lowGo]
  | j :: r, b, n, i => by
    rw [List.cons_append, lowGo, lowGo_snoc r, lowGo, List.length_cons]
    congr 2
    omega
theorem lowGo_next {l : List InsIns} {b : IrBlock} {k : Nat} (hk : k < l.length) : lowGo b 0 (l.take (k + 1)) = lowStep (lowGo b 0 (l.take k)) l[k] (k : Int) := by
  rw [List.take_succ_eq_append_getElem hk, lowGo_snoc, List.length_take]
  congr 1
  omega
/-! How many operations there are -/
theorem lowOps_len (n : Int) (i : InsIns) (at_ : Int) : 1 ≤ (lowOps n i at_).length ∧ (lowOps n i at_).length ≤ 5 := by
  unfold lowOps
  repeat' split
  all_goals simp
def kinds (p : Int → Bool) (l : List IrOp) : Nat := (l.filter fun o => p o.kind).length
theorem kinds_append (p : Int → Bool) (a b : List IrOp) : kinds p (a ++ b) = kinds p a + kinds p b := by unfold kinds; rw [List.filter_append, List.length_append]
def outB (k : Int) : Bool := inB k 4 7
def reachB (op : Int) : Bool := op == 9 || op == 10 || op == 14 || op == 15
def turnsB (op : Int) : Bool := decide (op ≤ 9) || op == 15
theorem lowOps_outs (n : Int) (i : InsIns) (at_ : Int) : kinds outB (lowOps n i at_) = if reachB i.op then 1 else 0 := by
  by_cases h1 : i.op = 1
  · unfold lowOps; rw [if_pos h1, h1]; rfl
  by_cases h2 : i.op = 2
  · unfold lowOps; rw [if_neg h1, if_pos h2, h2]; rfl
  by_cases h8 : i.op = 8
  · unfold lowOps; rw [if_neg h1, if_neg h2, if_pos h8, h8]; rfl
  by_cases h9 : i.op = 9
  · unfold lowOps; rw [if_neg h1, if_neg h2, if_neg h8, if_pos h9, h9]; rfl
  by_cases h10 : i.op = 10
  · unfold lowOps; rw [if_neg h1, if_neg h2, if_neg h8, if_neg h9, if_pos h10, h10]; rfl
  by_cases h14 : i.op = 14
  · unfold lowOps; rw [if_neg h1, if_neg h2, if_neg h8, if_neg h9, if_neg h10, if_pos h14, h14]; rfl
  by_cases h15 : i.op = 15
  · unfold lowOps; rw [if_neg h1, if_neg h2, if_neg h8, if_neg h9, if_neg h10, if_neg h14, if_pos h15, h15]; rfl
  have hr : reachB i.op = false := by unfold reachB; simp [h9, h10, h14, h15]
  rw [hr]
  unfold lowOps
  rw [if_neg h1, if_neg h2, if_neg h8, if_neg h9, if_neg h10, if_neg h14, if_neg h15]
  split
  · rfl
  split
  · rfl
  · rfl
theorem lowOps_sets (n : Int) (i : InsIns) (at_ : Int) (h0 : i.op ≠ 0) (h : 0 ≤ i.op) (h' : i.op ≤ 15) : kinds (· == 8) (lowOps n i at_) = if turnsB i.op then 1 else 0 := by
  have hc : i.op = 1 ∨ i.op = 2 ∨ i.op = 3 ∨ i.op = 4 ∨ i.op = 5 ∨ i.op = 6 ∨ i.op = 7 ∨ i.op = 8 ∨ i.op = 9 ∨ i.op = 10 ∨ i.op = 11 ∨ i.op = 12 ∨ i.op = 13 ∨ i.op = 14 ∨ i.op = 15 := by omega
  obtain ⟨op, d, a, k⟩ := i
  simp only at hc
  rcases hc with rfl | rfl | rfl | rfl | rfl | rfl | rfl | rfl | rfl | rfl | rfl | rfl | rfl | rfl | rfl <;> rfl
def countB (p : Int → Bool) (l : List InsIns) : Nat := (l.filter fun i => p i.op).length
theorem countB_snoc (p : Int → Bool) (l : List InsIns) (i : InsIns) : countB p (l ++ [i]) = countB p l + (if p i.op then 1 else 0) := by
  unfold countB
  rw [List.filter_append, List.length_append]
  cases h : p i.op <;> simp [h]

end Go.Proofs.Yteaacelfnkiboaa
