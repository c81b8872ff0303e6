/-
  OptPure
-/
import Derived.Test.YteaacelfnkiboaaYWordPure
import Derived.Test.YteaacelfnkiboaaYWords
namespace Go.Proofs.Yteaacelfnkiboaa
open Go.RowKit
set_option linter.unusedVariables false
set_option linter.unusedSimpArgs false

def emptyBlock : IrBlock := ⟨0, 0, [], 0, 0, 0, 0⟩
/-- The number of an entry; 0 behind the end. -/
def gI (l : List Int) (i : Int) : Int := (l[i.toNat]?).getD 0
def gB (l : List Bool) (i : Nat) : Bool := (l[i]?).getD false
theorem gB_at (l : List Bool) (i : Nat) (h : i < l.length) : gB l i = l[i] := by simp [gB, List.getElem?_eq_getElem h]
theorem gB_set (l : List Bool) (i j : Nat) (v : Bool) : gB (l.set i v) j = if i = j ∧ j < l.length then v else gB l j := by
  unfold gB
  rw [List.getElem?_set]
  by_cases h : i = j
  · subst h
    by_cases h2 : i < l.length
    · simp [h2]
    · simp [h2, List.getElem?_eq_none (Nat.le_of_not_lt h2)]
  · simp [h]
theorem gB_ext {l s : List Bool} (h : l.length = s.length) (hg : ∀ j, gB l j = gB s j) : l = s := by
  refine List.ext_getElem h fun i h1 h2 => ?_
  have := hg i
  rwa [gB_at l i h1, gB_at s i h2] at this

/-! what a valid block gives -/
theorem ok_ops {b : IrBlock} (h : irOkB b = true) : ∀ k (hk : k < b.ops.length), opOkB b.ops b.ops[k] k b.len = true := by
  intro k hk
  cases hq : opOkB b.ops b.ops[k] k b.len with
  | true => rfl
  | false =>
    have := okTo_false b.ops b.len k hk hq
    unfold irOkB at h
    rw [this] at h
    simp at h
theorem ok_end {b : IrBlock} (h : irOkB b = true) : endOkB b = true := by unfold irOkB at h; simp at h; exact h.2
theorem ok_n {b : IrBlock} (h : irOkB b = true) : b.ops.length ≤ 48 := by unfold irOkB at h; simp at h; exact h.1.1.2
theorem ok_len {b : IrBlock} (h : irOkB b = true) : 1 ≤ b.len ∧ b.len ≤ 8 := by unfold irOkB inB at h; simp at h; exact h.1.1.1.1
theorem ok_pc {b : IrBlock} (h : irOkB b = true) : 0 ≤ b.pc ∧ b.pc ≤ 64 - b.len := by unfold irOkB inB at h; simp at h; exact ⟨h.1.1.1.2.1, by omega⟩
theorem valB_lt {ops : List IrOp} {x n : Int} (h : valB ops x n = true) : 0 ≤ x ∧ x < n := by unfold valB at h; simp at h; exact ⟨h.1.1, h.1.2⟩
theorem op_kind {ops : List IrOp} {o : IrOp} {n size : Int} (h : opOkB ops o n size = true) : 1 ≤ o.kind ∧ o.kind ≤ 8 := by
  unfold opOkB at h
  repeat' split at h
  all_goals first | omega | simp at h
theorem op_x {ops : List IrOp} {o : IrOp} {n size : Int} (h : opOkB ops o n size = true) (hx : hasX o.kind = true) : 0 ≤ o.x ∧ o.x < n := by
  unfold opOkB at h
  unfold hasX at hx
  repeat' split at h
  all_goals simp_all
  all_goals exact valB_lt (by first | exact h.1.1.1 | exact h.1.1)
theorem op_y {ops : List IrOp} {o : IrOp} {n size : Int} (h : opOkB ops o n size = true) (hy : hasY o.kind = true) : 0 ≤ o.y ∧ o.y < n := by
  unfold opOkB at h
  unfold hasY at hy
  repeat' split at h
  all_goals simp_all
  all_goals exact valB_lt (by exact h.1.1.2)
theorem op_r {ops : List IrOp} {o : IrOp} {n size : Int} (h : opOkB ops o n size = true) (hk : o.kind = 2 ∨ o.kind = 8) : 0 ≤ o.k ∧ o.k ≤ 3 := by
  unfold opOkB inB at h
  rcases hk with hk | hk <;> simp [hk] at h <;> omega
theorem op_c {ops : List IrOp} {o : IrOp} {n size : Int} (h : opOkB ops o n size = true) (hk : o.kind = 1) : wordB o.k = true := by
  unfold opOkB at h
  simp [hk] at h
  exact h.1.2
theorem op_d {ops : List IrOp} {o : IrOp} {n size : Int} (h : opOkB ops o n size = true) (hk : o.kind = 3) : 1 ≤ o.k ∧ o.k ≤ 5 := by
  unfold opOkB inB at h
  simp [hk] at h
  omega
theorem end_fin {b : IrBlock} (h : endOkB b = true) : 1 ≤ b.fin ∧ b.fin ≤ 4 := by
  unfold endOkB at h
  repeat' split at h
  all_goals first | omega | simp at h
theorem end_x {b : IrBlock} (h : endOkB b = true) (hx : endX b.fin = true) : 0 ≤ b.x ∧ b.x < b.ops.length := by
  unfold endOkB at h
  unfold endX at hx
  repeat' split at h
  all_goals simp_all
  all_goals exact valB_lt (by exact h.1.1)
theorem end_y {b : IrBlock} (h : endOkB b = true) (hy : endY b.fin = true) : 0 ≤ b.y ∧ b.y < b.ops.length := by
  have hf := end_fin h
  unfold endY at hy
  simp at hy
  unfold endOkB at h
  rw [if_neg (by omega), if_neg (by omega), if_pos (by omega)] at h
  simp at h
  exact valB_lt h.1.2
theorem end_y0 {b : IrBlock} (h : endOkB b = true) (hy : b.fin = 1 ∨ b.fin = 2) : b.y = 0 := by
  unfold endOkB at h
  rcases hy with hy | hy <;> simp [hy] at h
  · exact h.1.2
  · exact h.1.2

/-! OptUsed -/
def mark (l : List Bool) (p : Bool) (i : Int) : List Bool := if p then l.set i.toNat true else l
theorem mark_length (l : List Bool) (p : Bool) (i : Int) : (mark l p i).length = l.length := by unfold mark; split <;> simp
/-- What is used, by the program: one operation at a time, the last one first. -/
def usedStep (l : List Bool) (k : Nat) (o : IrOp) : List Bool :=
  if (gB l k || decide (4 ≤ o.kind)) then mark (mark (l.set k true) (hasX o.kind) o.x) (hasY o.kind) o.y else l.set k false
def usedGo (ops : List IrOp) : Nat → List Bool → List Bool
  | 0, l => l
  | k + 1, l => usedGo ops k (match ops[k]? with | some o => usedStep l k o | none => l)
def usedEnd (b : IrBlock) (l : List Bool) : List Bool := mark (mark l (endX b.fin) b.x) (endY b.fin) b.y
def usedB (b : IrBlock) : List Bool := usedGo b.ops b.ops.length (usedEnd b (List.replicate b.ops.length false))
/-- The same, by the reference. -/
def usedStepS (l : List Bool) (k : Nat) (o : IrOp) : List Bool :=
  if gB l k then mark (mark l (hasX o.kind) o.x) (hasY o.kind) o.y else l
def usedGoS (ops : List IrOp) : Nat → List Bool → List Bool
  | 0, l => l
  | k + 1, l => usedGoS ops k (match ops[k]? with | some o => usedStepS l k o | none => l)
def usedS (b : IrBlock) : List Bool := usedGoS b.ops b.ops.length (usedEnd b (b.ops.map fun o => decide (4 ≤ o.kind)))
def kd (ops : List IrOp) (j : Nat) : Bool := ((ops[j]?).map fun o => decide (4 ≤ o.kind)).getD false
/-- How the two stand to each other with so many still to do. -/
def UR (ops : List IrOp) (k : Nat) (l s : List Bool) : Prop := l.length = s.length ∧ ∀ j, gB s j = (gB l j || (decide (j < k) && kd ops j))
theorem UR.mark {ops : List IrOp} {k : Nat} {l s : List Bool} (h : UR ops k l s) (p : Bool) (i : Int) : UR ops k (mark l p i) (mark s p i) := by
  refine ⟨by rw [mark_length, mark_length]; exact h.1, fun j => ?_⟩
  unfold Go.Proofs.Yteaacelfnkiboaa.mark
  split
  · rw [gB_set, gB_set, h.1, h.2 j]
    split <;> simp
  · exact h.2 j
theorem used_same (ops : List IrOp) : ∀ (k : Nat) (l s : List Bool), k ≤ ops.length → ops.length = l.length → UR ops k l s → usedGo ops k l = usedGoS ops k s
  | 0, l, s, _, _, h => by show l = s; exact gB_ext h.1 fun j => by rw [h.2 j]; simp
  | k + 1, l, s, hk, hl, h => by
    have hko : k < ops.length := by omega
    unfold usedGo usedGoS
    rw [List.getElem?_eq_getElem hko]
    show usedGo ops k (usedStep l k ops[k]) = usedGoS ops k (usedStepS s k ops[k])
    have hs := h.2 k
    have hkd : kd ops k = decide (4 ≤ ops[k].kind) := by simp [kd, List.getElem?_eq_getElem hko]
    rw [hkd, decide_eq_true (show k < k + 1 by omega), Bool.true_and] at hs
    have hset : ∀ v, v = gB s k → UR ops k (l.set k v) s := fun v hv => by
      refine ⟨by rw [List.length_set]; exact h.1, fun j => ?_⟩
      rw [gB_set]
      by_cases hj : k = j
      · subst hj
        rw [if_pos ⟨rfl, by omega⟩, hv]
        simp
      · rw [if_neg (by simp [hj]), h.2 j]
        by_cases hjk : j < k
        · rw [decide_eq_true hjk, decide_eq_true (by omega : j < k + 1)]
        · rw [decide_eq_false hjk, decide_eq_false (by omega : ¬ j < k + 1)]
    unfold usedStep usedStepS
    rw [← hs]
    cases hq : gB s k with
    | true =>
      rw [if_pos rfl, if_pos rfl]
      exact used_same ops k _ _ (by omega) (by rw [mark_length, mark_length, List.length_set]; exact hl) (((hset true hq.symm).mark _ _).mark _ _)
    | false =>
      rw [if_neg (by simp), if_neg (by simp)]
      exact used_same ops k _ _ (by omega) (by rw [List.length_set]; exact hl) (hset false hq.symm)
theorem usedS_eq (b : IrBlock) : usedS b = usedB b := by
  unfold usedS usedB
  symm
  refine used_same b.ops _ _ _ (Nat.le_refl _) (by unfold usedEnd; rw [mark_length, mark_length]; simp) ?_
  unfold usedEnd
  refine (UR.mark ?_ _ _).mark _ _
  refine ⟨by simp, fun j => ?_⟩
  unfold gB kd
  by_cases hj : j < b.ops.length
  · simp [hj, List.getElem?_eq_getElem hj]
  · simp [List.getElem?_eq_none (Nat.le_of_not_lt hj), hj]
theorem usedGo_length (ops : List IrOp) : ∀ (k : Nat) (l : List Bool), (usedGo ops k l).length = l.length
  | 0, l => rfl
  | k + 1, l => by
    unfold usedGo
    rw [usedGo_length ops k]
    split
    · unfold usedStep; split <;> simp [mark_length]
    · rfl
theorem usedB_length (b : IrBlock) : (usedB b).length = b.ops.length := by
  unfold usedB usedEnd
  rw [usedGo_length, mark_length, mark_length]; simp
theorem usedGoS_succ (ops : List IrOp) (k : Nat) (l : List Bool) (h : k < ops.length) : usedGoS ops (k + 1) l = usedGoS ops k (usedStepS l k ops[k]) := by
  rw [usedGoS, List.getElem?_eq_getElem h]
theorem usedStepS_yes {l : List Bool} {k : Nat} {o : IrOp} (h : gB l k = true) : usedStepS l k o = mark (mark l (hasX o.kind) o.x) (hasY o.kind) o.y := by unfold usedStepS; rw [if_pos h]
theorem usedStepS_no {l : List Bool} {k : Nat} {o : IrOp} (h : gB l k = false) : usedStepS l k o = l := by unfold usedStepS; rw [if_neg (by rw [h]; simp)]
def optUsed (b : IrBlock) : List Bool := if irOkB b then usedB b else []

/-! names -/
/-- An operation with others in the place of those of which it is. -/
def ren (N : List Int) (o : IrOp) : IrOp := { o with x := if hasX o.kind then gI N o.x else o.x, y := if hasY o.kind then gI N o.y else o.y }
def renEnd (N : List Int) (b : IrBlock) (ops : List IrOp) : IrBlock := { b with ops := ops, x := if endX b.fin then gI N b.x else b.x, y := if endY b.fin then gI N b.y else b.y }
/-- The indices of an operation are below a number. -/
def Below' (k : Nat) (o : IrOp) : Prop := (hasX o.kind = true → 0 ≤ o.x ∧ o.x < (k : Int)) ∧ (hasY o.kind = true → 0 ≤ o.y ∧ o.y < (k : Int))
theorem gI_app (P : List Int) (a : Int) (x : Int) (h0 : 0 ≤ x) (h1 : x < (P.length : Int)) : gI (P ++ [a]) x = gI P x := by
  unfold gI
  rw [List.getElem?_append_left (by omega)]
theorem ren_app (P : List Int) (a : Int) (o : IrOp) (h : Below' P.length o) : ren (P ++ [a]) o = ren P o := by
  unfold ren
  have hx : (if hasX o.kind then gI (P ++ [a]) o.x else o.x) = if hasX o.kind then gI P o.x else o.x := by
    split
    · rename_i hq; exact gI_app P a o.x (h.1 hq).1 (h.1 hq).2
    · rfl
  have hy : (if hasY o.kind then gI (P ++ [a]) o.y else o.y) = if hasY o.kind then gI P o.y else o.y := by
    split
    · rename_i hq; exact gI_app P a o.y (h.2 hq).1 (h.2 hq).2
    · rfl
  rw [hx, hy]
theorem map_ren_app (P : List Int) (a : Int) (l : List IrOp) (h : ∀ o, o ∈ l → Below' P.length o) : l.map (ren (P ++ [a])) = l.map (ren P) :=
  List.map_congr_left fun o ho => ren_app P a o (h o ho)
theorem Below'.mono {k m : Nat} {o : IrOp} (h : Below' k o) (hm : k ≤ m) : Below' m o := ⟨fun hq => ⟨(h.1 hq).1, by have := (h.1 hq).2; omega⟩, fun hq => ⟨(h.2 hq).1, by have := (h.2 hq).2; omega⟩⟩
theorem ok_below {b : IrBlock} (h : irOkB b = true) (k : Nat) (hk : k < b.ops.length) : Below' k b.ops[k] :=
  ⟨fun hq => op_x (ok_ops h k hk) hq, fun hq => op_y (ok_ops h k hk) hq⟩
theorem ok_below_take {b : IrBlock} (h : irOkB b = true) (k : Nat) (hk : k ≤ b.ops.length) : ∀ o, o ∈ b.ops.take k → Below' k o := by
  intro o ho
  obtain ⟨i, hi, rfl⟩ := List.mem_take_iff_getElem.1 ho
  exact (ok_below h i (by omega)).mono (by omega)

theorem set_self {α : Type} (l : List α) (i : Nat) (a : α) (h : l[i]? = some a) : l.set i a = l := by
  obtain ⟨hi, rfl⟩ := List.getElem?_eq_some_iff.1 h
  exact List.set_getElem_self hi
/-! OptCopy -/
structure CpS where
  names : List Int
  last : List Int
def cpStep (s : CpS) (o : IrOp) : CpS :=
  if o.kind = 2 then
    if 0 ≤ gI s.last o.k then ⟨s.names ++ [gI s.last o.k], s.last⟩
    else ⟨s.names ++ [(s.names.length : Int)], s.last.set o.k.toNat (s.names.length : Int)⟩
  else if o.kind = 8 then ⟨s.names ++ [(s.names.length : Int)], s.last.set o.k.toNat (gI s.names o.x)⟩
  else ⟨s.names ++ [(s.names.length : Int)], s.last⟩
def cpTo (ops : List IrOp) (k : Nat) : CpS := (ops.take k).foldl cpStep ⟨[], [-1, -1, -1, -1]⟩
theorem cpStep_length (s : CpS) (o : IrOp) : (cpStep s o).names.length = s.names.length + 1 := by
  unfold cpStep; repeat' split
  all_goals simp
theorem cpStep_last (s : CpS) (o : IrOp) : (cpStep s o).last.length = s.last.length := by
  unfold cpStep; repeat' split
  all_goals simp
theorem cpTo_succ (ops : List IrOp) (k : Nat) (h : k < ops.length) : cpTo ops (k + 1) = cpStep (cpTo ops k) ops[k] := by
  unfold cpTo
  rw [List.take_succ_eq_append_getElem h, List.foldl_append]
  rfl
theorem cpTo_names (ops : List IrOp) : ∀ k, k ≤ ops.length → (cpTo ops k).names.length = k
  | 0, _ => by simp [cpTo]
  | k + 1, h => by rw [cpTo_succ ops k (by omega), cpStep_length, cpTo_names ops k (by omega)]
theorem cpTo_last (ops : List IrOp) : ∀ k, k ≤ ops.length → (cpTo ops k).last.length = 4
  | 0, _ => by simp [cpTo]
  | k + 1, h => by rw [cpTo_succ ops k (by omega), cpStep_last, cpTo_last ops k (by omega)]
theorem cpStep_ex (s : CpS) (o : IrOp) : ∃ a, (cpStep s o).names = s.names ++ [a] := by
  unfold cpStep; repeat' split
  all_goals exact ⟨_, rfl⟩
def optCopy (b : IrBlock) : IrBlock := if irOkB b then renEnd (cpTo b.ops b.ops.length).names b (b.ops.map (ren (cpTo b.ops b.ops.length).names)) else emptyBlock
/-- The reference's operations, so many of them done. -/
def cpOps (ops : List IrOp) (k : Nat) : List IrOp := (ops.take k).map (ren (cpTo ops k).names) ++ ops.drop k
theorem cpOps_zero (ops : List IrOp) : cpOps ops 0 = ops := by simp [cpOps]
theorem cpOps_length (ops : List IrOp) (k : Nat) (h : k ≤ ops.length) : (cpOps ops k).length = ops.length := by simp [cpOps]; omega
theorem cpOps_at (ops : List IrOp) (k : Nat) (h : k < ops.length) : (cpOps ops k)[k]'(by rw [cpOps_length ops k (by omega)]; exact h) = ops[k] := by
  unfold cpOps
  rw [List.getElem_append_right (by simp; omega)]
  simp [Nat.min_eq_left (Nat.le_of_lt h)]
theorem cpOps_succ {b : IrBlock} (h : irOkB b = true) (k : Nat) (hk : k < b.ops.length) : cpOps b.ops (k + 1) = (cpOps b.ops k).set k (ren (cpTo b.ops k).names b.ops[k]) := by
  obtain ⟨a, ha⟩ := cpStep_ex (cpTo b.ops k) b.ops[k]
  have hn := cpTo_names b.ops k (by omega)
  have hl : ((b.ops.take k).map (ren (cpTo b.ops k).names)).length = k := by simp; omega
  unfold cpOps
  rw [cpTo_succ b.ops k hk, ha, List.take_succ_eq_append_getElem hk, List.map_append, map_ren_app _ a _ (by rw [hn]; exact ok_below_take h k (by omega)), List.map_cons, List.map_nil, ren_app _ a _ (by rw [hn]; exact ok_below h k hk)]
  rw [List.drop_eq_getElem_cons hk, List.set_append_right _ _ (by omega), hl, Nat.sub_self, List.set_cons_zero, List.append_assoc]
  rfl
theorem cpOps_all (ops : List IrOp) : cpOps ops ops.length = ops.map (ren (cpTo ops ops.length).names) := by simp [cpOps]

/-! OptSets -/
/-- Whether a register is set anew in what follows, ahead of anything that looks at it or may leave. -/
def seenR (r : Int) : List IrOp → Bool
  | [] => false
  | o :: t => if o.kind = 4 ∨ o.kind = 5 ∨ (o.kind = 2 ∧ o.k = r) then false else if o.kind = 8 ∧ o.k = r then true else seenR r t
def keptL : List IrOp → List Bool
  | [] => []
  | o :: t => (!(o.kind == 8 && seenR o.k t)) :: keptL t
theorem keptL_length : ∀ ops : List IrOp, (keptL ops).length = ops.length
  | [] => rfl
  | o :: t => by simp [keptL, keptL_length t]
theorem keptL_drop : ∀ (ops : List IrOp) (k : Nat), (keptL ops).drop k = keptL (ops.drop k)
  | [], k => by simp [keptL]
  | o :: t, 0 => by simp
  | o :: t, k + 1 => by simp [keptL, keptL_drop t k]
theorem keptL_at (ops : List IrOp) (k : Nat) (h : k < ops.length) : (keptL ops)[k]'(by rw [keptL_length]; exact h) = !(ops[k].kind == 8 && seenR ops[k].k (ops.drop (k + 1))) := by
  have h1 := keptL_drop ops k
  rw [List.drop_eq_getElem_cons h, List.drop_eq_getElem_cons (by rw [keptL_length]; exact h)] at h1
  simp only [keptL, List.cons.injEq] at h1
  exact h1.1

/-! a block with some operations alone -/
def keptTo (ops : List IrOp) (ks : List Bool) : Nat → List IrOp
  | 0 => []
  | k + 1 => keptTo ops ks k ++ (if gB ks k then (ops[k]?).toList else [])
def namesTo (ops : List IrOp) (ks : List Bool) : Nat → List Int
  | 0 => []
  | k + 1 => namesTo ops ks k ++ [((keptTo ops ks k).length : Int)]
theorem namesTo_length (ops : List IrOp) (ks : List Bool) : ∀ k, (namesTo ops ks k).length = k
  | 0 => rfl
  | k + 1 => by simp [namesTo, namesTo_length ops ks k]
theorem keptTo_length (ops : List IrOp) (ks : List Bool) : ∀ k, (keptTo ops ks k).length ≤ k
  | 0 => by simp [keptTo]
  | k + 1 => by
    have := keptTo_length ops ks k
    unfold keptTo
    rw [List.length_append]
    split
    · have : (ops[k]?).toList.length ≤ 1 := by cases ops[k]? <;> simp
      omega
    · simp; omega
theorem keptTo_yes (ops : List IrOp) (ks : List Bool) (k : Nat) (hk : k < ops.length) (h : gB ks k = true) : keptTo ops ks (k + 1) = keptTo ops ks k ++ [ops[k]] := by
  simp [keptTo, h, List.getElem?_eq_getElem hk]
theorem keptTo_no (ops : List IrOp) (ks : List Bool) (k : Nat) (h : gB ks k = false) : keptTo ops ks (k + 1) = keptTo ops ks k := by
  simp [keptTo, h]
def dropB (b : IrBlock) (ks : List Bool) : IrBlock := renEnd (namesTo b.ops ks b.ops.length) b ((keptTo b.ops ks b.ops.length).map (ren (namesTo b.ops ks b.ops.length)))
theorem keptTo_below {b : IrBlock} (h : irOkB b = true) (ks : List Bool) : ∀ k, k ≤ b.ops.length → ∀ o, o ∈ keptTo b.ops ks k → Below' k o
  | 0, _, o, ho => by simp [keptTo] at ho
  | k + 1, hk, o, ho => by
    unfold keptTo at ho
    rcases List.mem_append.1 ho with ho | ho
    · exact (keptTo_below h ks k (by omega) o ho).mono (by omega)
    · split at ho
      · rw [List.getElem?_eq_getElem (by omega : k < b.ops.length)] at ho
        simp at ho
        subst ho
        exact (ok_below h k (by omega)).mono (by omega)
      · simp at ho
theorem keptRen_succ {b : IrBlock} (h : irOkB b = true) (ks : List Bool) (k : Nat) (hk : k < b.ops.length) :
    (keptTo b.ops ks k).map (ren (namesTo b.ops ks (k + 1))) = (keptTo b.ops ks k).map (ren (namesTo b.ops ks k)) := by
  show (keptTo b.ops ks k).map (ren (namesTo b.ops ks k ++ [_])) = _
  exact map_ren_app _ _ _ (by rw [namesTo_length]; exact keptTo_below h ks k (by omega))
def optSets (b : IrBlock) : IrBlock := if irOkB b then dropB b (keptL b.ops) else emptyBlock
def optDead (b : IrBlock) : IrBlock := if irOkB b then dropB b (usedB b) else emptyBlock

/-! OptConst -/
def kindAt (L : List IrOp) (x : Int) : Int := ((L[x.toNat]?).map IrOp.kind).getD 0
def numAt (L : List IrOp) (x : Int) : Int := ((L[x.toNat]?).map IrOp.k).getD 0
def foldOp (L : List IrOp) (o : IrOp) : IrOp :=
  if o.kind = 3 ∧ kindAt L o.x = 1 ∧ kindAt L o.y = 1 then ⟨1, 0, 0, wrdDo o.k (numAt L o.x) (numAt L o.y), 0⟩ else o
def foldTo (ops : List IrOp) : Nat → List IrOp
  | 0 => ops
  | k + 1 => match ops[k]? with | some o => (foldTo ops k).set k (foldOp (foldTo ops k) o) | none => foldTo ops k
theorem foldTo_length (ops : List IrOp) : ∀ k, (foldTo ops k).length = ops.length
  | 0 => rfl
  | k + 1 => by
    unfold foldTo
    split
    · rw [List.length_set]; exact foldTo_length ops k
    · exact foldTo_length ops k
theorem foldTo_succ (ops : List IrOp) (k : Nat) (h : k < ops.length) : foldTo ops (k + 1) = (foldTo ops k).set k (foldOp (foldTo ops k) ops[k]) := by
  rw [foldTo, List.getElem?_eq_getElem h]
theorem foldTo_later (ops : List IrOp) : ∀ k j, k ≤ j → (foldTo ops k)[j]? = ops[j]?
  | 0, j, _ => rfl
  | k + 1, j, h => by
    unfold foldTo
    split
    · rw [List.getElem?_set_ne (by omega)]; exact foldTo_later ops k j (by omega)
    · exact foldTo_later ops k j (by omega)
theorem foldTo_at (ops : List IrOp) (k : Nat) (h : k < ops.length) : (foldTo ops k)[k]'(by rw [foldTo_length]; exact h) = ops[k] := by
  have := foldTo_later ops k k (Nat.le_refl _)
  rw [List.getElem?_eq_getElem (by rw [foldTo_length]; exact h), List.getElem?_eq_getElem h] at this
  exact Option.some.inj this
def endConst (b : IrBlock) (L : List IrOp) : IrBlock :=
  if b.fin = 2 ∧ kindAt L b.x = 1 then { b with ops := L, fin := 1, x := 0, k := numAt L b.x }
  else if 3 ≤ b.fin ∧ kindAt L b.x = 1 ∧ kindAt L b.y = 1 then
    { b with ops := L, fin := 1, x := 0, y := 0, k := if (b.fin = 3 ∧ numAt L b.x = numAt L b.y) ∨ (b.fin = 4 ∧ numAt L b.x < numAt L b.y) then b.k else b.pc + b.len }
  else { b with ops := L }
def optConst (b : IrBlock) : IrBlock := if irOkB b then endConst b (foldTo b.ops b.ops.length) else emptyBlock
theorem foldTo_words {b : IrBlock} (h : irOkB b = true) : ∀ k, k ≤ b.ops.length → ∀ j (hj : j < (foldTo b.ops k).length), (foldTo b.ops k)[j].kind = 1 → wordB (foldTo b.ops k)[j].k = true
  | 0, _, j, hj, hk => op_c (ok_ops h j (by simpa [foldTo] using hj)) hk
  | k + 1, hk', j, hj, hk => by
    have hko : k < b.ops.length := by omega
    have h1 := foldTo_succ b.ops k hko
    have ih := foldTo_words h k (by omega)
    have hj' : j < (foldTo b.ops k).length := by rw [foldTo_length] at hj ⊢; exact hj
    have hg : (foldTo b.ops (k + 1))[j] = if k = j then foldOp (foldTo b.ops k) b.ops[k] else (foldTo b.ops k)[j] := by
      simp only [h1, List.getElem_set]
    rw [hg] at hk ⊢
    by_cases hkj : k = j
    · subst hkj
      simp only [if_true] at hk ⊢
      unfold foldOp at hk ⊢
      split
      · exact wrdDo_word _ _ _
      · rename_i hc
        rw [if_neg hc] at hk
        exact op_c (ok_ops h k hko) hk
    · simp only [if_neg hkj] at hk ⊢
      exact ih j hj' hk
def optAll (b : IrBlock) : IrBlock := optDead (optSets (optDead (optConst (optCopy b))))

/-! IrBytes -/
def b8 (n : Int) : UInt8 := UInt8.ofNat (n % 256).toNat
def opBytes (o : IrOp) : List UInt8 := [b8 o.kind, b8 o.x, b8 o.y, b8 (o.k / 256), b8 o.k, b8 o.at_]
def bytesB (b : IrBlock) : List UInt8 := [b8 b.pc, b8 b.len, b8 b.fin, b8 b.x, b8 b.y, b8 (b.k / 256), b8 b.k] ++ b.ops.flatMap opBytes
def irBytes (b : IrBlock) : List UInt8 := if irOkB b then bytesB b else []

end Go.Proofs.Yteaacelfnkiboaa
