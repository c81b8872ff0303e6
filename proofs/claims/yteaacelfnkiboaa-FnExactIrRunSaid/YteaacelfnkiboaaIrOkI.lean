/-
  The program says whether a block is valid: the helpers.
-/
import Derived.Test.YteaacelfnkiboaaWords
import Derived.Test.YteaacelfnkiboaaRows
import Derived.Test.YteaacelfnkiboaaIrPure2
import Derived.Test.YteaacelfnkiboaaReg2Lib
namespace Go.Proofs.Yteaacelfnkiboaa
open Go.RowKit

set_option linter.unusedVariables false
set_option linter.unusedSimpArgs false
set_option maxRecDepth 100000

theorem isOp_any (n : Int) (w : World) : Calls Try.prog 84 #[.int .i64 n] w fun e w' => e = .returned (.bool (inB n 1 5)) ∧ w = w' := by
  go_enter Try.func84, Try.ntmps84
  go_wp2_with (go_at_call 48; refine (in_any _ _ _ _).mono ?_; rintro e w' ⟨rfl, rfl⟩)
  go_ret
  exact ⟨rfl, rfl⟩

set_option maxHeartbeats 1000000 in
theorem produces_any (o : IrOp) (w : World) : Calls Try.prog 109 #[.agg #[.int .i64 o.kind, .int .i64 o.x, .int .i64 o.y, .int .i64 o.k, .int .i64 o.at_]] w fun e w' => e = .returned (.bool (makesB o.kind)) ∧ Ext w w' := by
  go_enter Try.func109, Try.ntmps109
  go_wp2_with (go_at_call 48; refine (in_any _ _ _ _).mono ?_; rintro e w' ⟨rfl, rfl⟩)
  all_goals go_ret
  all_goals exact ⟨ret_bool (by unfold makesB; simp [*]), (Ext.auto)⟩

set_option maxHeartbeats 2000000 in
theorem value_any (b : IrBlock) (x n : Int) (v : Value) (w : World) (h : Sl w (Old w) v b.ops) (hn : n ≤ b.ops.length) (hn0 : 0 ≤ n) :
    Calls Try.prog 85 #[.agg #[.int .i64 b.pc, .int .i64 b.len, v, .int .i64 b.fin, .int .i64 b.x, .int .i64 b.y, .int .i64 b.k], .int .i64 x, .int .i64 n] w fun e w' => e = .returned (.bool (valB b.ops x n)) ∧ Ext w w' := by
  by_cases h0 : 0 ≤ x
  · by_cases h1 : x < n
    · obtain ⟨A, c, rfl, hl, hm⟩ := h.form
      unfold maxLen at hm
      have hi : x.toNat < b.ops.length := by omega
      obtain ⟨bb, off, rfl, hbo, hk0, e0, e1, e2, e3, e4⟩ := at_IrOp h hi
      have hbl : bb < w.heap.size := hbo
      have H := hide (valB_yes h0 h1 hi)
      obtain ⟨j, rfl⟩ := Int.eq_ofNat_of_zero_le h0
      simp only [Int.toNat_natCast] at e0 e1 e2 e3 e4 H
      have z1 : (j : Int) < (b.ops.length : Int) := by omega
      have hI : inB (j : Int) 0 (n - 1) = true := inB_yes (by omega) (by omega)
      go_enter Try.func85, Try.ntmps85
      go_wp2_with (first | (go_at_call 48; refine (in_any _ _ _ _).mono ?_; rintro e w' ⟨rfl, rfl⟩) | (go_at_call 109; refine (produces_any b.ops[j] _).mono ?_; rintro e w1 ⟨rfl, hx⟩))
      go_ret
      exact ⟨ret_bool H.out.symm, Ext.trans (Ext.auto) hx⟩
    · obtain ⟨A, c, rfl, hl, hm⟩ := h.form
      unfold maxLen at hm
      have H := hide (valB_high (ops := b.ops) (show n ≤ x by omega))
      have hI : inB x 0 (n - 1) = false := inB_high (by omega)
      go_enter Try.func85, Try.ntmps85
      go_wp2_with (go_at_call 48; refine (in_any _ _ _ _).mono ?_; rintro e w' ⟨rfl, rfl⟩)
      go_ret
      exact ⟨ret_bool H.out.symm, (Ext.auto)⟩
  · obtain ⟨A, c, rfl, hl, hm⟩ := h.form
    unfold maxLen at hm
    have H := hide (valB_low (ops := b.ops) (n := n) (show x < 0 by omega))
    have hI : inB x 0 (n - 1) = false := inB_low (by omega)
    go_enter Try.func85, Try.ntmps85
    go_wp2_with (go_at_call 48; refine (in_any _ _ _ _).mono ?_; rintro e w' ⟨rfl, rfl⟩)
    go_ret
    exact ⟨ret_bool H.out.symm, (Ext.auto)⟩

set_option maxHeartbeats 8000000 in
theorem has_any (kd x y k at_ : Int) (w : World) (h1 : 1 ≤ kd) (h2 : kd ≤ 8) : Calls Try.prog 82 #[.agg #[.int .i64 kd, .int .i64 x, .int .i64 y, .int .i64 k, .int .i64 at_]] w fun e w' =>
    e = .returned (.tuple #[.bool (hasX kd), .bool (hasY kd), .bool (hasK kd), .bool (hasAt kd)]) ∧ Ext w w' := by
  have hc : kd = 1 ∨ kd = 2 ∨ kd = 3 ∨ kd = 4 ∨ kd = 5 ∨ kd = 6 ∨ kd = 7 ∨ kd = 8 := by omega
  clear h1 h2
  rcases hc with rfl | rfl | rfl | rfl | rfl | rfl | rfl | rfl
  all_goals
    go_enter Try.func82, Try.ntmps82
    go_wp2_with (go_at_call 48; refine (in_any _ _ _ _).mono ?_; rintro e w' ⟨rfl, rfl⟩)
    refine bodyPost_ret (v := .tuple #[.bool (hasX _), .bool (hasY _), .bool (hasK _), .bool (hasAt _)]) (by simp [results, Try.results82, go_sem]; exact ⟨rfl, rfl, rfl, rfl⟩) rfl ⟨rfl, ?_⟩
    exact (Ext.auto)

end Go.Proofs.Yteaacelfnkiboaa
