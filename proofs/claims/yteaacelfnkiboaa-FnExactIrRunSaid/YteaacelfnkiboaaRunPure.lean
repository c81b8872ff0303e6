/-
  A machine that goes through a piece of code, in plain words. No program in sight.
-/
import Derived.Test.YteaacelfnkiboaaMachPure
import Derived.Test.YteaacelfnkiboaaOptPure
namespace Go.Proofs.Yteaacelfnkiboaa
open Go.RowKit
set_option linter.unusedVariables false
set_option linter.unusedSimpArgs false

/-- A machine on its way through a piece of code: the words that were made, and whether it has left. -/
structure RSt where
  m : MchMach
  vals : List Int
  left : Bool
def rLeave (b : IrBlock) (m : MchMach) (n halt : Int) : MchMach := { m with pc := b.pc + n, count := m.count + n, halt := halt }
/-- The address is that of a later instruction. -/
def overB (b : IrBlock) (x n : Int) : Bool := decide (b.pc + n < x) && decide (x < b.pc + b.len)
def MchMach.setM (m : MchMach) (x y : Int) : MchMach := { m with mem := m.mem.set x.toNat y }
/-- An operation that reaches out. -/
def rEvent (b : IrBlock) (m : MchMach) (o : IrOp) (x y : Int) : MchMach × Int × Bool :=
  if o.kind = 7 then ({ m with outs := m.outs ++ [x] }, 0, false)
  else if o.kind = 6 then ({ m with ins := m.ins.drop 1 }, (m.ins[0]?).getD 0, false)
  else if 64 ≤ x then (rLeave b m o.at_ 3, 0, true)
  else if o.kind = 4 then (m, m.word x, false)
  else if overB b x o.at_ then (rLeave b (m.setM x y) (o.at_ + 1) 0, 0, true)
  else (m.setM x y, 0, false)
/-- One that does not. -/
def rWord (m : MchMach) (o : IrOp) (x y : Int) : Int :=
  if o.kind = 1 then o.k else if o.kind = 2 then m.reg o.k else if o.kind = 3 then wrdDo o.k x y else 0
def rOp (b : IrBlock) (s : RSt) (o : IrOp) : RSt :=
  if s.left then s
  else if o.kind = 8 then ⟨s.m.setR o.k (gI s.vals o.x), s.vals ++ [0], false⟩
  else if 4 ≤ o.kind then
    ⟨(rEvent b s.m o (gI s.vals o.x) (gI s.vals o.y)).1, s.vals ++ [(rEvent b s.m o (gI s.vals o.x) (gI s.vals o.y)).2.1], (rEvent b s.m o (gI s.vals o.x) (gI s.vals o.y)).2.2⟩
  else ⟨s.m, s.vals ++ [rWord s.m o (gI s.vals o.x) (gI s.vals o.y)], false⟩
def rTo (b : IrBlock) (m : MchMach) (k : Nat) : RSt := (b.ops.take k).foldl (rOp b) ⟨m, [], false⟩
def rGo (b : IrBlock) (vals : List Int) : Int :=
  if b.fin = 1 then b.k
  else if b.fin = 2 then gI vals b.x
  else if b.fin = 3 then (if gI vals b.x = gI vals b.y then b.k else b.pc + b.len)
  else (if gI vals b.x < gI vals b.y then b.k else b.pc + b.len)
def rEnd (b : IrBlock) (s : RSt) : MchMach := if s.left then s.m else { s.m with pc := rGo b s.vals, count := s.m.count + b.len }
def irGoes (b : IrBlock) (m : MchMach) : Bool := (m.halt == 0) && (m.pc == b.pc) && decide (m.count ≤ 1000000 - b.len)
def irRunOk (b : IrBlock) (m : MchMach) : Bool := irOkB b && mchOkB m && irGoes b m
def irRun (b : IrBlock) (m : MchMach) : MchMach :=
  if irOkB b && mchOkB m then (if irGoes b m then rEnd b (rTo b m b.ops.length) else m) else emptyMach
theorem rTo_zero (b : IrBlock) (m : MchMach) : rTo b m 0 = ⟨m, [], false⟩ := rfl
theorem rTo_succ (b : IrBlock) (m : MchMach) (k : Nat) (h : k < b.ops.length) : rTo b m (k + 1) = rOp b (rTo b m k) b.ops[k] := by
  unfold rTo
  rw [List.take_succ_eq_append_getElem h, List.foldl_append]
  rfl
theorem rFold_left (b : IrBlock) (s : RSt) (h : s.left = true) : ∀ (l : List IrOp), l.foldl (rOp b) s = s
  | [] => rfl
  | o :: r => by
    have e : rOp b s o = s := by unfold rOp; rw [if_pos h]
    rw [List.foldl_cons, e, rFold_left b s h r]
/-- Where it has left it stays. -/
theorem rTo_left (b : IrBlock) (m : MchMach) (k : Nat) (hk : k ≤ b.ops.length) (h : (rTo b m k).left = true) : rTo b m b.ops.length = rTo b m k := by
  have e : b.ops.take b.ops.length = b.ops.take k ++ b.ops.drop k := by rw [List.take_length, List.take_append_drop]
  unfold rTo
  rw [e, List.foldl_append]
  exact rFold_left b _ h _
theorem rOp_vals (b : IrBlock) (s : RSt) (o : IrOp) (h : s.left = false) : (rOp b s o).vals.length = s.vals.length + 1 := by
  unfold rOp
  rw [if_neg (by rw [h]; simp)]
  repeat' split
  all_goals simp
theorem rTo_vals (b : IrBlock) (m : MchMach) : ∀ k, k ≤ b.ops.length → (rTo b m k).left = false → (rTo b m k).vals.length = k
  | 0, _, _ => rfl
  | k + 1, hk, h => by
    rw [rTo_succ b m k (by omega)] at h ⊢
    cases hl : (rTo b m k).left with
    | true => unfold rOp at h; rw [if_pos hl] at h; rw [hl] at h; cases h
    | false => rw [rOp_vals b _ _ hl, rTo_vals b m k (by omega) hl]
/-! words stay words -/
def WordsR (s : RSt) : Prop := MOk s.m ∧ ∀ x, x ∈ s.vals → 0 ≤ x ∧ x < 65536
theorem gI_word {l : List Int} (h : ∀ x, x ∈ l → 0 ≤ x ∧ x < 65536) (i : Int) : 0 ≤ gI l i ∧ gI l i < 65536 := by
  unfold gI
  cases hq : l[i.toNat]? with
  | none => simp
  | some x => simp; exact h x (List.mem_of_getElem? hq)
theorem mok_setM {m : MchMach} (h : MOk m) {x y : Int} (h0 : 0 ≤ y) (h1 : y < 65536) : MOk (m.setM x y) := by
  refine ⟨h.rl, h.rw_, h.p0, h.p1, ?_, fun z hz => ?_, h.s0, h.s1, h.h0, h.h1, h.iw, h.ow, h.c0, h.c1⟩
  · show (m.mem.set _ _).length = 64
    rw [List.length_set]; exact h.ml
  · rcases List.mem_or_eq_of_mem_set hz with hz | rfl
    · exact h.mw z hz
    · exact ⟨h0, h1⟩
theorem mok_setR {m : MchMach} (h : MOk m) {d n : Int} (h0 : 0 ≤ n) (h1 : n < 65536) : MOk (m.setR d n) := by
  refine ⟨?_, fun z hz => ?_, h.p0, h.p1, h.ml, h.mw, h.s0, h.s1, h.h0, h.h1, h.iw, h.ow, h.c0, h.c1⟩
  · show (m.regs.set _ _).length = 4
    rw [List.length_set]; exact h.rl
  · rcases List.mem_or_eq_of_mem_set hz with hz | rfl
    · exact h.rw_ z hz
    · exact ⟨h0, h1⟩
theorem mok_out {m : MchMach} (h : MOk m) {n : Int} (h0 : 0 ≤ n) (h1 : n < 65536) : MOk { m with outs := m.outs ++ [n] } :=
  ⟨h.rl, h.rw_, h.p0, h.p1, h.ml, h.mw, h.s0, h.s1, h.h0, h.h1, h.iw, fun z hz => by
    rcases List.mem_append.1 hz with hz | hz
    · exact h.ow z hz
    · simp at hz; subst hz; exact ⟨h0, h1⟩, h.c0, h.c1⟩
theorem mok_in {m : MchMach} (h : MOk m) : MOk { m with ins := m.ins.drop 1 } :=
  ⟨h.rl, h.rw_, h.p0, h.p1, h.ml, h.mw, h.s0, h.s1, h.h0, h.h1, fun z hz => h.iw z (List.mem_of_mem_drop hz), h.ow, h.c0, h.c1⟩
theorem insWord {m : MchMach} (h : MOk m) : (0 : Int) ≤ (m.ins[0]?).getD 0 ∧ (m.ins[0]?).getD 0 < 65536 := by
  cases hq : m.ins[0]? with
  | none => simp
  | some x => simp; exact h.iw x (List.mem_of_getElem? hq)
/-- What is so before it leaves: the machine's place, its count and its halt are as they were. -/
structure RunAt (m : MchMach) (s : RSt) : Prop where
  ok : MOk s.m
  words : ∀ x, x ∈ s.vals → 0 ≤ x ∧ x < 65536
  pc : s.m.pc = m.pc
  count : s.m.count = m.count
  halt : s.m.halt = m.halt
  outs : s.m.outs.length ≤ m.outs.length + s.vals.length
  ins : s.m.ins.length ≤ m.ins.length
theorem RunAt.start {m : MchMach} (h : MOk m) : RunAt m ⟨m, [], false⟩ := ⟨h, by intro x hx; simp at hx, rfl, rfl, rfl, by simp, Nat.le_refl _⟩
theorem word_app {l : List Int} (h : ∀ x, x ∈ l → 0 ≤ x ∧ x < 65536) {n : Int} (h0 : 0 ≤ n) (h1 : n < 65536) : ∀ x, x ∈ l ++ [n] → 0 ≤ x ∧ x < 65536 := fun x hx => by
  rcases List.mem_append.1 hx with hx | hx
  · exact h x hx
  · simp at hx; subst hx; exact ⟨h0, h1⟩
theorem reg_word {m : MchMach} (h : MOk m) (r : Int) : 0 ≤ m.reg r ∧ m.reg r < 65536 := gI_word h.rw_ r
theorem mem_word {m : MchMach} (h : MOk m) (r : Int) : 0 ≤ m.word r ∧ m.word r < 65536 := gI_word h.mw r
theorem RunAt.next {m : MchMach} {b : IrBlock} {s : RSt} {o : IrOp} (h : RunAt m s) (hl : s.left = false) (hc : o.kind = 1 → wordB o.k = true) (hn : (rOp b s o).left = false) : RunAt m (rOp b s o) := by
  have hx := gI_word h.words o.x
  have hy := gI_word h.words o.y
  have ho := h.outs
  have hi := h.ins
  unfold rOp at hn ⊢
  rw [if_neg (by rw [hl]; simp)] at hn ⊢
  split
  · exact ⟨mok_setR h.ok hx.1 hx.2, word_app h.words (by omega) (by omega), h.pc, h.count, h.halt, by simp [MchMach.setR]; omega, hi⟩
  · rename_i h8
    rw [if_neg h8] at hn
    split
    · rename_i h4
      rw [if_pos h4] at hn
      simp only at hn
      by_cases h7 : o.kind = 7
      · rw [rEvent, if_pos h7]
        exact ⟨mok_out h.ok hx.1 hx.2, word_app h.words (by show (0 : Int) ≤ 0; omega) (by show (0 : Int) < 65536; omega), h.pc, h.count, h.halt, by simp; omega, hi⟩
      by_cases h6 : o.kind = 6
      · rw [rEvent, if_neg h7, if_pos h6]
        have hw := insWord h.ok
        exact ⟨mok_in h.ok, word_app h.words hw.1 hw.2, h.pc, h.count, h.halt, by simp; omega, by simp; omega⟩
      by_cases h64 : 64 ≤ gI s.vals o.x
      · rw [rEvent, if_neg h7, if_neg h6, if_pos h64] at hn
        cases hn
      by_cases h44 : o.kind = 4
      · rw [rEvent, if_neg h7, if_neg h6, if_neg h64, if_pos h44]
        have hw := mem_word h.ok (gI s.vals o.x)
        exact ⟨h.ok, word_app h.words hw.1 hw.2, h.pc, h.count, h.halt, by simp; omega, hi⟩
      cases hv : overB b (gI s.vals o.x) o.at_
      · rw [rEvent, if_neg h7, if_neg h6, if_neg h64, if_neg h44, if_neg (by rw [hv]; simp)]
        exact ⟨mok_setM h.ok hy.1 hy.2, word_app h.words (by show (0 : Int) ≤ 0; omega) (by show (0 : Int) < 65536; omega), h.pc, h.count, h.halt, by simp [MchMach.setM]; omega, hi⟩
      · rw [rEvent, if_neg h7, if_neg h6, if_neg h64, if_neg h44, if_pos hv] at hn
        cases hn
    · refine ⟨h.ok, word_app h.words ?_ ?_, h.pc, h.count, h.halt, by simp; omega, hi⟩
      all_goals
        unfold rWord
        repeat' split
        · have := wordB_iff.1 (hc (by assumption)); omega
        · have := reg_word h.ok o.k; omega
        · have := wordB_iff.1 (wrdDo_word o.k (gI s.vals o.x) (gI s.vals o.y)); omega
        · omega
theorem RunAt.to {m : MchMach} {b : IrBlock} (hm : MOk m) (hb : irOkB b = true) : ∀ k, k ≤ b.ops.length → (rTo b m k).left = false → RunAt m (rTo b m k)
  | 0, _, _ => RunAt.start hm
  | k + 1, hk, h => by
    rw [rTo_succ b m k (by omega)] at h ⊢
    cases hl : (rTo b m k).left with
    | true => unfold rOp at h; rw [if_pos hl] at h; rw [hl] at h; cases h
    | false => exact (RunAt.to hm hb k (by omega) hl).next hl (op_c (ok_ops hb k (by omega))) h

end Go.Proofs.Yteaacelfnkiboaa
