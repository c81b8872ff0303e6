/-
  WordPure, IrPure, MachPure, BlkPure, LowPure
-/
import Derived.Test.YteaacelfnkiboaaYTy
namespace Go.Proofs.Yteaacelfnkiboaa
open Go.RowKit

set_option linter.unusedVariables false
set_option linter.unusedSimpArgs false
set_option maxRecDepth 100000

/-- A number in a range. -/
def inB (n lo hi : Int) : Bool := decide (lo ≤ n) && decide (n ≤ hi)
def wordB (n : Int) : Bool := decide (0 ≤ n) && decide (n < 65536)
theorem inB_yes {n lo hi : Int} (h1 : lo ≤ n) (h2 : n ≤ hi) : inB n lo hi = true := by simp [inB, h1, h2]
theorem inB_low {n lo hi : Int} (h1 : n < lo) : inB n lo hi = false := by unfold inB; rw [decide_eq_false (by omega)]; rfl
theorem inB_high {n lo hi : Int} (h1 : hi < n) : inB n lo hi = false := by unfold inB; rw [decide_eq_false (p := n ≤ hi) (by omega)]; simp
theorem inB_iff {n lo hi : Int} : inB n lo hi = true ↔ lo ≤ n ∧ n ≤ hi := by simp [inB]
theorem wordB_yes {n : Int} (h1 : 0 ≤ n) (h2 : n < 65536) : wordB n = true := by simp [wordB, h1, h2]
theorem wordB_low {n : Int} (h1 : n < 0) : wordB n = false := by unfold wordB; rw [decide_eq_false (by omega)]; rfl
theorem wordB_high {n : Int} (h1 : 65536 ≤ n) : wordB n = false := by unfold wordB; rw [decide_eq_false (p := n < 65536) (by omega)]; simp
theorem word_in (k : Int) : inB k 0 65535 = wordB k := by
  unfold inB wordB
  congr 1
  by_cases h : k ≤ 65535
  · rw [decide_eq_true h, decide_eq_true (by omega)]
  · rw [decide_eq_false h, decide_eq_false (by omega)]
theorem ret_bool {a b : Bool} (h : a = b) : Ending.returned (.bool a) = .returned (.bool b) := by rw [h]

end Go.Proofs.Yteaacelfnkiboaa

namespace Go.Proofs.Yteaacelfnkiboaa
open Go.RowKit

set_option linter.unusedVariables false
set_option linter.unusedSimpArgs false
set_option maxRecDepth 100000

/-- A kind that yields a value. -/
def makesB (k : Int) : Bool := inB k 1 4 || k == 6
/-- An index of one of the first operations that yields a value. -/
def valB (ops : List IrOp) (x n : Int) : Bool := decide (0 ≤ x) && decide (x < n) && makesB (((ops[x.toNat]?).map IrOp.kind).getD 0)
def opOkB (ops : List IrOp) (o : IrOp) (n size : Int) : Bool :=
  if o.kind = 1 then o.x == 0 && o.y == 0 && wordB o.k && o.at_ == 0
  else if o.kind = 2 then o.x == 0 && o.y == 0 && inB o.k 0 3 && o.at_ == 0
  else if o.kind = 3 then valB ops o.x n && valB ops o.y n && inB o.k 1 5 && o.at_ == 0
  else if o.kind = 4 then valB ops o.x n && o.y == 0 && o.k == 0 && inB o.at_ 0 (size - 1)
  else if o.kind = 5 then valB ops o.x n && valB ops o.y n && o.k == 0 && inB o.at_ 0 (size - 1)
  else if o.kind = 6 then o.x == 0 && o.y == 0 && o.k == 0 && inB o.at_ 0 (size - 1)
  else if o.kind = 7 then valB ops o.x n && o.y == 0 && o.k == 0 && inB o.at_ 0 (size - 1)
  else if o.kind = 8 then valB ops o.x n && o.y == 0 && inB o.k 0 3 && o.at_ == 0
  else false
def endOkB (b : IrBlock) : Bool :=
  if b.fin = 1 then b.x == 0 && b.y == 0 && wordB b.k
  else if b.fin = 2 then valB b.ops b.x b.ops.length && b.y == 0 && b.k == 0
  else if b.fin = 3 ∨ b.fin = 4 then valB b.ops b.x b.ops.length && valB b.ops b.y b.ops.length && wordB b.k
  else false
/-- The first k operations are valid. -/
def okTo (ops : List IrOp) (size : Int) (k : Nat) : Bool := (List.range k).all fun j => match ops[j]? with | some o => opOkB ops o j size | none => true
/-- A block is valid. -/
def irOkB (b : IrBlock) : Bool := inB b.len 1 8 && inB b.pc 0 (64 - b.len) && decide (b.ops.length ≤ 48) && okTo b.ops b.len b.ops.length && endOkB b
theorem okTo_succ (ops : List IrOp) (size : Int) (k : Nat) (h : k < ops.length) : okTo ops size (k + 1) = (okTo ops size k && opOkB ops ops[k] k size) := by
  unfold okTo
  rw [List.range_succ, List.all_append]
  simp [List.getElem?_eq_getElem h]
theorem okTo_false (ops : List IrOp) (size : Int) (k : Nat) (h : k < ops.length) (h2 : opOkB ops ops[k] k size = false) : okTo ops size ops.length = false := by
  unfold okTo
  rw [List.all_eq_false]
  exact ⟨k, List.mem_range.2 h, by simp [List.getElem?_eq_getElem h, h2]⟩
theorem valB_yes {ops : List IrOp} {x n : Int} (h0 : 0 ≤ x) (h1 : x < n) (h : x.toNat < ops.length) : valB ops x n = makesB ops[x.toNat].kind := by
  unfold valB; simp [h0, h1, List.getElem?_eq_getElem h]
theorem valB_low {ops : List IrOp} {x n : Int} (h0 : x < 0) : valB ops x n = false := by
  unfold valB; rw [decide_eq_false (by omega)]; rfl
theorem valB_high {ops : List IrOp} {x n : Int} (h0 : n ≤ x) : valB ops x n = false := by
  unfold valB; rw [decide_eq_false (p := x < n) (by omega)]; simp
end Go.Proofs.Yteaacelfnkiboaa

namespace Go.Proofs.Yteaacelfnkiboaa
open Go.RowKit
set_option linter.unusedVariables false
set_option linter.unusedSimpArgs false

/-! Instructions -/
def insFormB (i : InsIns) : Bool :=
  if i.op = 0 then (i.d == 0 && i.a == 0) && decide (i.k ≤ 3)
  else if i.op = 1 then i.a == 0
  else if i.op = 2 then i.k == 0
  else if 3 ≤ i.op ∧ i.op ≤ 7 then decide (i.k < 4)
  else if i.op = 8 then decide (i.k < 16)
  else if i.op = 13 then i.d == 0 && i.k == 0
  else if i.op = 14 ∨ i.op = 15 then i.a == 0 && i.k == 0
  else true
def insOkB (i : InsIns) : Bool := inB i.op 0 15 && inB i.d 0 3 && inB i.a 0 3 && inB i.k 0 255 && insFormB i
/-- What is known of an instruction that is ok. -/
structure InsR (i : InsIns) : Prop where
  o0 : 0 ≤ i.op
  o1 : i.op ≤ 15
  d0 : 0 ≤ i.d
  d1 : i.d ≤ 3
  a0 : 0 ≤ i.a
  a1 : i.a ≤ 3
  k0 : 0 ≤ i.k
  k1 : i.k ≤ 255
  stop : i.op = 0 → i.k ≤ 3
  calc_ : 3 ≤ i.op → i.op ≤ 7 → i.k < 4
  shift : i.op = 8 → i.k < 16
theorem insR {i : InsIns} (h : insOkB i = true) : InsR i := by
  unfold insOkB at h
  simp only [Bool.and_eq_true, inB_iff] at h
  obtain ⟨⟨⟨⟨h1, h2⟩, h3⟩, h4⟩, h5⟩ := h
  refine ⟨h1.1, h1.2, h2.1, h2.2, h3.1, h3.2, h4.1, h4.2, fun e => ?_, fun e1 e2 => ?_, fun e => ?_⟩
  · unfold insFormB at h5; rw [if_pos e] at h5; simp at h5; exact h5.2
  · unfold insFormB at h5; rw [if_neg (by omega), if_neg (by omega), if_neg (by omega), if_pos ⟨e1, e2⟩] at h5; simpa using h5
  · unfold insFormB at h5; rw [if_neg (by omega), if_neg (by omega), if_neg (by omega), if_neg (by omega), if_pos e] at h5; simpa using h5
/-! Words -/
def wrdDo (op a b : Int) : Int :=
  if wordB a && wordB b then
    if op = 1 then (a + b) % 65536 else if op = 2 then (a - b) % 65536 else if op = 3 then a * b % 65536
    else if op = 4 then ((a.toNat &&& b.toNat : Nat) : Int) else if op = 5 then ((a.toNat ^^^ b.toNat : Nat) : Int) else 0
  else 0
theorem wrdDo_word (op a b : Int) : wordB (wrdDo op a b) = true := by
  unfold wrdDo
  split
  · rename_i h
    simp [wordB] at h
    have ha : a.toNat < 2 ^ 16 := by omega
    have hb : b.toNat < 2 ^ 16 := by omega
    repeat' split
    all_goals refine wordB_yes ?_ ?_
    all_goals first | omega | (have := Nat.and_lt_two_pow a.toNat hb; omega) | (have := Nat.xor_lt_two_pow ha hb; omega)
  · exact wordB_yes (by omega) (by omega)
/-! Machines -/
def emptyMach : MchMach := ⟨[], 0, [], 0, false, false, 0, [], [], 0⟩
/-- What a machine that is ok is like. -/
structure MOk (m : MchMach) : Prop where
  rl : m.regs.length = 4
  rw_ : ∀ x, x ∈ m.regs → 0 ≤ x ∧ x < 65536
  p0 : 0 ≤ m.pc
  p1 : m.pc < 65536
  ml : m.mem.length = 64
  mw : ∀ x, x ∈ m.mem → 0 ≤ x ∧ x < 65536
  s0 : 0 ≤ m.save
  s1 : m.save < 65536
  h0 : 0 ≤ m.halt
  h1 : m.halt ≤ 4
  iw : ∀ x, x ∈ m.ins → 0 ≤ x ∧ x < 65536
  ow : ∀ x, x ∈ m.outs → 0 ≤ x ∧ x < 65536
  c0 : 0 ≤ m.count
  c1 : m.count ≤ 1000000
def MchMach.next (m : MchMach) (pc : Int) : MchMach := { m with pc := pc % 65536, count := m.count + 1 }
def mStop (m : MchMach) (k : Int) : MchMach :=
  if k = 1 then ({ m with lets := true } : MchMach).next m.save
  else if k = 2 then ({ m with lets := true } : MchMach).next (m.pc + 1)
  else if k = 3 then ({ m with lets := false } : MchMach).next (m.pc + 1)
  else ({ m with halt := 1 } : MchMach).next (m.pc + 1)
namespace MOk
variable {m : MchMach}
theorem next (h : MOk m) (hc : m.count < 1000000) (pc : Int) : MOk (m.next pc) :=
  ⟨h.rl, h.rw_, by show 0 ≤ pc % 65536; omega, by show pc % 65536 < 65536; omega, h.ml, h.mw, h.s0, h.s1, h.h0, h.h1, h.iw, h.ow, by show 0 ≤ m.count + 1; have := h.c0; omega, by show m.count + 1 ≤ 1000000; omega⟩
theorem halt (h : MOk m) {n : Int} (h0 : 0 ≤ n) (h1 : n ≤ 4) : MOk { m with halt := n } := ⟨h.rl, h.rw_, h.p0, h.p1, h.ml, h.mw, h.s0, h.s1, h0, h1, h.iw, h.ow, h.c0, h.c1⟩
theorem lets (h : MOk m) (b : Bool) : MOk { m with lets := b } := ⟨h.rl, h.rw_, h.p0, h.p1, h.ml, h.mw, h.s0, h.s1, h.h0, h.h1, h.iw, h.ow, h.c0, h.c1⟩
theorem stop (h : MOk m) (hc : m.count < 1000000) (k : Int) : MOk (mStop m k) := by
  unfold mStop
  split
  · exact (h.lets true).next hc _
  · split
    · exact (h.lets true).next hc _
    · split
      · exact (h.lets false).next hc _
      · exact (h.halt (n := 1) (by decide) (by decide)).next hc _
end MOk
end Go.Proofs.Yteaacelfnkiboaa

namespace Go.Proofs.Yteaacelfnkiboaa
open Go.RowKit
set_option linter.unusedVariables false
set_option linter.unusedSimpArgs false

def endB (op : Int) : Bool := op == 11 || op == 12 || op == 13
/-- The k-th instruction may stand in a piece of code: it is ok, does not stop, and ends it as the last one alone. -/
def okAt (l : List InsIns) (k : Nat) : Bool := match l[k]? with
  | some i => insOkB i && (i.op != 0) && (!endB i.op || decide (k + 1 = l.length))
  | none => false
def AllAt (l : List InsIns) (k : Nat) : Prop := ∀ j, j < k → okAt l j = true
def blkOkB (pc : Int) (l : List InsIns) : Bool := inB (l.length : Int) 1 8 && inB pc 0 (64 - (l.length : Int)) && (List.range l.length).all (okAt l)
theorem allAt_iff {l : List InsIns} {k : Nat} : (List.range k).all (okAt l) = true ↔ AllAt l k := by
  rw [List.all_eq_true]
  exact ⟨fun h j hj => h j (List.mem_range.2 hj), fun h j hj => h j (List.mem_range.1 hj)⟩
theorem AllAt.zero (l : List InsIns) : AllAt l 0 := fun j hj => absurd hj (Nat.not_lt_zero j)
theorem AllAt.next {l : List InsIns} {k : Nat} (h : AllAt l k) (hk : okAt l k = true) : AllAt l (k + 1) := fun j hj => by
  by_cases e : j = k
  · rw [e]; exact hk
  · exact h j (by omega)
theorem okAt_get {l : List InsIns} {k : Nat} (hk : k < l.length) : okAt l k = (insOkB l[k] && (l[k].op != 0) && (!endB l[k].op || decide (k + 1 = l.length))) := by
  unfold okAt; rw [List.getElem?_eq_getElem hk]
theorem blkOk_yes {pc : Int} {l : List InsIns} (h1 : inB (l.length : Int) 1 8 = true) (h2 : inB pc 0 (64 - (l.length : Int)) = true) (h : AllAt l l.length) : blkOkB pc l = true := by
  unfold blkOkB; rw [h1, h2, allAt_iff.2 h]; rfl
theorem blkOk_no {pc : Int} {l : List InsIns} {k : Nat} (hk : k < l.length) (h : okAt l k = false) : blkOkB pc l = false := by
  rw [← Bool.not_eq_true]
  intro q
  unfold blkOkB at q
  simp only [Bool.and_eq_true] at q
  have := allAt_iff.1 q.2 k hk
  rw [h] at this
  exact absurd this (by simp)
theorem blkOk_iff {pc : Int} {l : List InsIns} : blkOkB pc l = true ↔ (1 ≤ l.length ∧ l.length ≤ 8) ∧ (0 ≤ pc ∧ pc ≤ 64 - (l.length : Int)) ∧ AllAt l l.length := by
  unfold blkOkB
  simp only [Bool.and_eq_true, inB_iff, allAt_iff]
  constructor
  · rintro ⟨⟨h1, h2⟩, h3⟩; exact ⟨⟨by omega, by omega⟩, h2, h3⟩
  · rintro ⟨h1, h2, h3⟩; exact ⟨⟨⟨by omega, by omega⟩, h2⟩, h3⟩
/-! Words and instructions -/
/-! The piece of code at a place -/
end Go.Proofs.Yteaacelfnkiboaa

namespace Go.Proofs.Yteaacelfnkiboaa
open Go.RowKit
set_option linter.unusedVariables false
set_option linter.unusedSimpArgs false

def oConst (k : Int) : IrOp := ⟨1, 0, 0, k, 0⟩
def oGet (k : Int) : IrOp := ⟨2, 0, 0, k, 0⟩
def oDo (k x y : Int) : IrOp := ⟨3, x, y, k, 0⟩
def oSet (k x : Int) : IrOp := ⟨8, x, 0, k, 0⟩
/-- The operations of an instruction, behind n others. -/
def lowOps (n : Int) (i : InsIns) (at_ : Int) : List IrOp :=
  if i.op = 1 then [oConst i.k, oSet i.d n]
  else if i.op = 2 then [oGet i.a, oSet i.d n]
  else if i.op = 8 then [oGet i.a, oConst (2 ^ i.k.toNat), oDo 3 n (n + 1), oSet i.d (n + 2)]
  else if i.op = 9 then [oGet i.a, oConst i.k, oDo 1 n (n + 1), ⟨4, n + 2, 0, 0, at_⟩, oSet i.d (n + 3)]
  else if i.op = 10 then [oGet i.a, oConst i.k, oDo 1 n (n + 1), oGet i.d, ⟨5, n + 2, n + 3, 0, at_⟩]
  else if i.op = 14 then [oGet i.d, ⟨7, n, 0, 0, at_⟩]
  else if i.op = 15 then [⟨6, 0, 0, 0, at_⟩, oSet i.d n]
  else if i.op = 11 ∨ i.op = 12 then [oGet i.d, oGet i.a]
  else if i.op = 13 then [oGet i.a]
  else [oGet i.a, oGet i.k, oDo (i.op - 2) n (n + 1), oSet i.d (n + 2)]
/-- A piece of code with an instruction more. -/
def lowStep (b : IrBlock) (i : InsIns) (at_ : Int) : IrBlock :=
  if i.op = 11 then { b with ops := b.ops ++ lowOps b.ops.length i at_, fin := 3, x := b.ops.length, y := b.ops.length + 1, k := i.k }
  else if i.op = 12 then { b with ops := b.ops ++ lowOps b.ops.length i at_, fin := 4, x := b.ops.length, y := b.ops.length + 1, k := i.k }
  else if i.op = 13 then { b with ops := b.ops ++ lowOps b.ops.length i at_, fin := 2, x := b.ops.length, k := 0 }
  else { b with ops := b.ops ++ lowOps b.ops.length i at_ }
def lowGo (b : IrBlock) : Nat → List InsIns → IrBlock
  | _, [] => b
  | n, i :: r => lowGo (lowStep b i n) (n + 1) r
def lowStart (pc : Int) (n : Nat) : IrBlock := ⟨pc, n, [], 1, 0, 0, pc + n⟩
def lowNone : IrBlock := ⟨0, 0, [], 0, 0, 0, 0⟩
def blkLower (pc : Int) (l : List InsIns) : IrBlock := if blkOkB pc l then lowGo (lowStart pc l.length) 0 l else lowNone
theorem lowStep_ops (b : IrBlock) (i : InsIns) (at_ : Int) : (lowStep b i at_).ops = b.ops ++ lowOps b.ops.length i at_ := by
  unfold lowStep
  split
  · rfl
  split
  · rfl
  split
  · rfl
  · rfl
theorem lowGo_snoc : ∀ (l : List InsIns) (b : IrBlock) (n : Nat) (i : InsIns), lowGo b n (l ++ [i]) = lowStep (lowGo b n l) i ((n + l.length : Nat) : Int)
  | [], b, n, i => by simp [lowGo]
  | j :: r, b, n, i => by
    rw [List.cons_append, lowGo, lowGo_snoc r, lowGo, List.length_cons]
    congr 2
    omega
theorem lowGo_next {l : List InsIns} {b : IrBlock} {k : Nat} (hk : k < l.length) : lowGo b 0 (l.take (k + 1)) = lowStep (lowGo b 0 (l.take k)) l[k] (k : Int) := by
  rw [List.take_succ_eq_append_getElem hk, lowGo_snoc, List.length_take]
  congr 1
  omega
/-! How many operations there are -/
theorem lowOps_len (n : Int) (i : InsIns) (at_ : Int) : 1 ≤ (lowOps n i at_).length ∧ (lowOps n i at_).length ≤ 5 := by
  unfold lowOps
  repeat' split
  all_goals simp
end Go.Proofs.Yteaacelfnkiboaa
