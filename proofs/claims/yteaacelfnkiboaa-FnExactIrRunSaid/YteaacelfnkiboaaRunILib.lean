/-
  The program's run through a piece of code, in plain words: the row of words is there from the beginning. No program in sight.
-/
import Derived.Test.YteaacelfnkiboaaRunPure
namespace Go.Proofs.Yteaacelfnkiboaa
open Go.RowKit
set_option linter.unusedVariables false
set_option linter.unusedSimpArgs false

/-- The words that were made, and noughts behind them. -/
def padV (n : Nat) (l : List Int) : List Int := l ++ List.replicate (n - l.length) 0
theorem padV_length {n : Nat} {l : List Int} (h : l.length ≤ n) : (padV n l).length = n := by unfold padV; simp; omega
theorem padV_nil (n : Nat) : padV n [] = List.replicate n 0 := by simp [padV]
theorem padV_full {n : Nat} {l : List Int} (h : l.length = n) : padV n l = l := by unfold padV; simp [h]
theorem gI_pad (n : Nat) (l : List Int) (i : Int) : gI (padV n l) i = gI l i := by
  unfold gI padV
  rw [List.getElem?_append]
  split
  · rfl
  · rename_i h
    rw [List.getElem?_replicate, List.getElem?_eq_none (by omega)]
    split <;> rfl
theorem padV_set {n k : Nat} {l : List Int} (hk : l.length = k) (h : k < n) (v : Int) : (padV n l).set k v = padV n (l ++ [v]) := by
  subst hk
  unfold padV
  rw [List.set_append_right _ _ (Nat.le_refl _), Nat.sub_self]
  obtain ⟨j, hj⟩ : ∃ j, n - l.length = j + 1 := ⟨n - l.length - 1, by omega⟩
  have e : n - (l ++ [v]).length = j := by simp; omega
  rw [hj, e, List.replicate_succ]
  simp
theorem padV_keep {n k : Nat} {l : List Int} (hk : l.length = k) (h : k < n) : padV n l = padV n (l ++ [0]) := by
  subst hk
  unfold padV
  obtain ⟨j, hj⟩ : ∃ j, n - l.length = j + 1 := ⟨n - l.length - 1, by omega⟩
  have e : n - (l ++ [(0 : Int)]).length = j := by simp; omega
  rw [hj, e, List.replicate_succ]
  simp
theorem padV_at {n : Nat} {l : List Int} (h : l.length ≤ n) {X : Nat} (hX : X < (padV n l).length) : (padV n l)[X] = gI l (X : Int) := by
  rw [← gI_pad n l, gI_nat _ _ hX]
theorem op_at {ops : List IrOp} {o : IrOp} {n size : Int} (h : opOkB ops o n size = true) (hk : o.kind = 4 ∨ o.kind = 5 ∨ o.kind = 6 ∨ o.kind = 7) : 0 ≤ o.at_ ∧ o.at_ ≤ size - 1 := by
  unfold opOkB at h
  rcases hk with e | e | e | e <;> simp [e, inB] at h <;> omega
theorem op_x0 {ops : List IrOp} {o : IrOp} {n size : Int} (h : opOkB ops o n size = true) : 0 ≤ o.x ∧ (o.x < n ∨ o.x = 0) := by
  have hk := op_kind h
  by_cases e : hasX o.kind = true
  · have := op_x h e; omega
  · unfold opOkB at h
    have hc : o.kind = 1 ∨ o.kind = 2 ∨ o.kind = 3 ∨ o.kind = 4 ∨ o.kind = 5 ∨ o.kind = 6 ∨ o.kind = 7 ∨ o.kind = 8 := by omega
    rcases hc with c | c | c | c | c | c | c | c <;> first | (simp [c] at h; omega) | (exfalso; apply e; rw [c]; rfl)
theorem op_y0 {ops : List IrOp} {o : IrOp} {n size : Int} (h : opOkB ops o n size = true) : 0 ≤ o.y ∧ (o.y < n ∨ o.y = 0) := by
  have hk := op_kind h
  by_cases e : hasY o.kind = true
  · have := op_y h e; omega
  · unfold opOkB at h
    have hc : o.kind = 1 ∨ o.kind = 2 ∨ o.kind = 3 ∨ o.kind = 4 ∨ o.kind = 5 ∨ o.kind = 6 ∨ o.kind = 7 ∨ o.kind = 8 := by omega
    rcases hc with c | c | c | c | c | c | c | c <;> first | (simp [c] at h; omega) | (exfalso; apply e; rw [c]; rfl)
/-! one operation, by its kind -/
theorem rOp_set {b : IrBlock} {s : RSt} {o : IrOp} (hl : s.left = false) (h : o.kind = 8) : rOp b s o = ⟨s.m.setR o.k (gI s.vals o.x), s.vals ++ [0], false⟩ := by
  unfold rOp; rw [if_neg (by rw [hl]; simp), if_pos h]
theorem rOp_event {b : IrBlock} {s : RSt} {o : IrOp} (hl : s.left = false) (h : 4 ≤ o.kind ∧ o.kind ≤ 7) : rOp b s o = ⟨(rEvent b s.m o (gI s.vals o.x) (gI s.vals o.y)).1, s.vals ++ [(rEvent b s.m o (gI s.vals o.x) (gI s.vals o.y)).2.1], (rEvent b s.m o (gI s.vals o.x) (gI s.vals o.y)).2.2⟩ := by
  unfold rOp; rw [if_neg (by rw [hl]; simp), if_neg (by omega), if_pos h.1]
theorem rOp_word {b : IrBlock} {s : RSt} {o : IrOp} (hl : s.left = false) (h : o.kind ≤ 3) : rOp b s o = ⟨s.m, s.vals ++ [rWord s.m o (gI s.vals o.x) (gI s.vals o.y)], false⟩ := by
  unfold rOp; rw [if_neg (by rw [hl]; simp), if_neg (by omega), if_neg (by omega)]
theorem rWord_word {m : MchMach} (h : MOk m) {o : IrOp} {x y : Int} (hc : o.kind = 1 → wordB o.k = true) : 0 ≤ rWord m o x y ∧ rWord m o x y < 65536 := by
  unfold rWord
  split
  · have := wordB_iff.1 (hc (by assumption)); omega
  split
  · have := reg_word h o.k; omega
  split
  · have := wordB_iff.1 (wrdDo_word o.k x y); omega
  · omega
theorem rOp_lens (b : IrBlock) (s : RSt) (o : IrOp) : (rOp b s o).m.regs.length = s.m.regs.length ∧ (rOp b s o).m.mem.length = s.m.mem.length ∧ (rOp b s o).m.ins.length ≤ s.m.ins.length ∧ (rOp b s o).m.outs.length ≤ s.m.outs.length + 1 := by
  unfold rOp
  split
  · simp
  · split
    · simp [MchMach.setR]
    · split
      · unfold rEvent
        repeat' split
        all_goals simp [rLeave, MchMach.setM]
      · simp
theorem rTo_lens (b : IrBlock) (m : MchMach) : ∀ k, k ≤ b.ops.length → (rTo b m k).m.regs.length = m.regs.length ∧ (rTo b m k).m.mem.length = m.mem.length ∧ (rTo b m k).m.ins.length ≤ m.ins.length ∧ (rTo b m k).m.outs.length ≤ m.outs.length + k
  | 0, _ => by rw [rTo_zero]; simp
  | k + 1, h => by
    have ih := rTo_lens b m k (by omega)
    have hs := rOp_lens b (rTo b m k) b.ops[k]
    rw [rTo_succ b m k (by omega)]
    omega
theorem rEnd_lens (b : IrBlock) (s : RSt) : (rEnd b s).regs = s.m.regs ∧ (rEnd b s).mem = s.m.mem ∧ (rEnd b s).ins = s.m.ins ∧ (rEnd b s).outs = s.m.outs := by unfold rEnd; split <;> simp

end Go.Proofs.Yteaacelfnkiboaa
