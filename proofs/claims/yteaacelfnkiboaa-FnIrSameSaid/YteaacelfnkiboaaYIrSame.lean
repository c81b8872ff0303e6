/-
  IrSame
-/
import Derived.Test.YteaacelfnkiboaaYTy
import Derived.Test.YteaacelfnkiboaaRows
import Derived.Laws.StructEq
import Derived.Deep.QuietTactic
import Derived.BigQuiet
import Derived.StillTailTactics
namespace Go.Proofs.Yteaacelfnkiboaa
open Go.RowKit
set_option linter.unusedVariables false
set_option linter.unusedSimpArgs false

theorem IrBlock.same_iff (a b : IrBlock) : a = b ↔ a.pc = b.pc ∧ a.len = b.len ∧ a.fin = b.fin ∧ a.x = b.x ∧ a.y = b.y ∧ a.k = b.k ∧ a.ops = b.ops := by
  constructor
  · rintro rfl; exact ⟨rfl, rfl, rfl, rfl, rfl, rfl, rfl⟩
  · rintro ⟨h1, h2, h3, h4, h5, h6, h7⟩
    cases a; cases b; simp_all

set_option maxHeartbeats 1000000 in
theorem neqIrOp (a b : IrOp) (w : World) : (binOp .neq 58 (.agg #[.int .i64 a.kind, .int .i64 a.x, .int .i64 a.y, .int .i64 a.k, .int .i64 a.at_]) (.agg #[.int .i64 b.kind, .int .i64 b.x, .int .i64 b.y, .int .i64 b.k, .int .i64 b.at_])).run Try.prog w = .ok (.bool (decide (a ≠ b))) w := by
  rw [run_neq_struct]
  simp only [IrOp.eq_iff, ne_eq]
  by_cases h1 : a.kind = b.kind
  rotate_left
  · simp [go_sem, h1]
  by_cases h2 : a.x = b.x
  rotate_left
  · simp [go_sem, h1, h2]
  by_cases h3 : a.y = b.y
  rotate_left
  · simp [go_sem, h1, h2, h3]
  by_cases h4 : a.k = b.k
  rotate_left
  · simp [go_sem, h1, h2, h3, h4]
  by_cases h5 : a.at_ = b.at_ <;> simp [go_sem, h1, h2, h3, h4, h5]

set_option maxHeartbeats 1000000 in
theorem equalIrOps_any (la lb : List IrOp) (va vb : Value) (w : World) (ha : Sl w (Old w) va la) (hb : Sl w (Old w) vb lb) :
    Calls Try.prog 36 #[va, vb] w fun e w' => e = .returned (.bool (decide (la = lb))) ∧ Ext w w' := by
  obtain ⟨A, ca, rfl, hla, hma⟩ := ha.form
  obtain ⟨B, cb, rfl, hlb, hmb⟩ := hb.form
  unfold maxLen at hma hmb
  by_cases hl : la.length = lb.length
  · have hn : ((la.length : Int) != (lb.length : Int)) = false := by simp [hl]
    have HL := hide hl
    clear hl
    go_enter Try.func36, Try.ntmps36
    go_wp2
    go_loopw [5, 13] (fun _ i wr => ∃ k : Nat, k ≤ la.length ∧ i = .int .i64 k ∧ Ext w wr ∧ la.take k = lb.take k) (fun _ i _ => la.length - (intOf i).toNat)
    case atStart => exact ⟨0, by omega, rfl, Ext.refl _, rfl⟩
    case round =>
      obtain ⟨k, hk, rfl, he, ht⟩ := hrel
      have HT := hide ht
      clear ht
      by_cases hlt : k < la.length
      · have hlt' : k < lb.length := by have := HL.out; omega
        obtain ⟨b, off, rfl, hbo, hke, e0, e1, e2, e3, e4⟩ := at_IrOp (ha.ext he) hlt
        obtain ⟨b', off', rfl, hbo', hkg, g0, g1, g2, g3, g4⟩ := at_IrOp (hb.ext he) hlt'
        have z0 : (0 : Int) ≤ (k : Int) := by omega
        have z1 : (k : Int) < (la.length : Int) := by omega
        have z2 : (k : Int) < (lb.length : Int) := by omega
        have TS := hide (take_both la lb k hlt hlt' HT.out)
        by_cases hq : la[k] = lb[k]
        · have d1 : ∀ w, (binOp .neq 58 (.agg #[.int .i64 la[k].kind, .int .i64 la[k].x, .int .i64 la[k].y, .int .i64 la[k].k, .int .i64 la[k].at_]) (.agg #[.int .i64 lb[k].kind, .int .i64 lb[k].x, .int .i64 lb[k].y, .int .i64 lb[k].k, .int .i64 lb[k].at_])).run Try.prog w = .ok (.bool false) w := fun w => by rw [neqIrOp]; simp [hq]
          have HQ := hide hq
          clear hq
          go_wp2_with fail
          go_quiet (fail)
          go_wp2
          go_roundw
          case rel => exact ⟨k + 1, by omega, by go_num, he.drewN _, TS.out.1 HQ.out⟩
          case measure => simp [intOf]; omega
        · have d1 : ∀ w, (binOp .neq 58 (.agg #[.int .i64 la[k].kind, .int .i64 la[k].x, .int .i64 la[k].y, .int .i64 la[k].k, .int .i64 la[k].at_]) (.agg #[.int .i64 lb[k].kind, .int .i64 lb[k].x, .int .i64 lb[k].y, .int .i64 lb[k].k, .int .i64 lb[k].at_])).run Try.prog w = .ok (.bool true) w := fun w => by rw [neqIrOp]; simp [hq]
          have HQ := hide hq
          clear hq
          go_wp2_with fail
          go_quiet (fail)
          go_wp2
          go_ret
          exact ⟨ret_no (TS.out.2 HQ.out), he.drewN _⟩
      · obtain rfl : k = la.length := by omega
        go_wp2
        go_ret
        exact ⟨ret_yes (take_all la lb HL.out HT.out), he⟩
  · have hn : ((la.length : Int) != (lb.length : Int)) = true := by simp; omega
    have HL := hide hl
    clear hl
    go_enter Try.func36, Try.ntmps36
    go_wp2
    go_ret
    exact ⟨ret_no (fun e => HL.out (by rw [e])), Ext.refl _⟩

set_option maxHeartbeats 2000000 in
theorem implIrSame_any (a b : IrBlock) (v1 u1 : Value) (w : World) (hv1 : Sl w (Old w) v1 a.ops) (hu1 : Sl w (Old w) u1 b.ops) :
    Calls Try.prog 8 #[.agg #[.int .i64 a.pc, .int .i64 a.len, v1, .int .i64 a.fin, .int .i64 a.x, .int .i64 a.y, .int .i64 a.k], .agg #[.int .i64 b.pc, .int .i64 b.len, u1, .int .i64 b.fin, .int .i64 b.x, .int .i64 b.y, .int .i64 b.k]] w fun e w' => e = .returned (.bool (decide (a = b))) ∧ Ext w w' := by
  obtain ⟨Av1, cv1, rfl, hla, hma⟩ := hv1.form
  obtain ⟨Au1, cu1, rfl, hlb, hmb⟩ := hu1.form
  unfold maxLen at hma hmb
  by_cases h0 : a.pc = b.pc
  rotate_left
  · have d0 : (a.pc == b.pc) = false := by simp [h0]
    have H0 := hide h0
    clear h0
    go_enter Try.func8, Try.ntmps8
    go_wp2
    go_ret
    exact ⟨ret_no (fun e => H0.out (by rw [e])), (by (repeat' (first | (with_reducible exact Ext.refl _) | (with_reducible apply Ext.alloc) | (with_reducible apply Ext.drew) | (with_reducible refine Ext.setCell ?_ ?_ _))); all_goals (first | (simp; done) | (simp; omega) | omega))⟩
  have d0 : (a.pc == b.pc) = true := by simp [h0]
  have H0 := hide h0
  clear h0
  by_cases h1 : a.len = b.len
  rotate_left
  · have d1 : (a.len == b.len) = false := by simp [h1]
    have H1 := hide h1
    clear h1
    go_enter Try.func8, Try.ntmps8
    go_wp2
    go_ret
    exact ⟨ret_no (fun e => H1.out (by rw [e])), (by (repeat' (first | (with_reducible exact Ext.refl _) | (with_reducible apply Ext.alloc) | (with_reducible apply Ext.drew) | (with_reducible refine Ext.setCell ?_ ?_ _))); all_goals (first | (simp; done) | (simp; omega) | omega))⟩
  have d1 : (a.len == b.len) = true := by simp [h1]
  have H1 := hide h1
  clear h1
  by_cases h2 : a.fin = b.fin
  rotate_left
  · have d2 : (a.fin == b.fin) = false := by simp [h2]
    have H2 := hide h2
    clear h2
    go_enter Try.func8, Try.ntmps8
    go_wp2
    go_ret
    exact ⟨ret_no (fun e => H2.out (by rw [e])), (by (repeat' (first | (with_reducible exact Ext.refl _) | (with_reducible apply Ext.alloc) | (with_reducible apply Ext.drew) | (with_reducible refine Ext.setCell ?_ ?_ _))); all_goals (first | (simp; done) | (simp; omega) | omega))⟩
  have d2 : (a.fin == b.fin) = true := by simp [h2]
  have H2 := hide h2
  clear h2
  by_cases h3 : a.x = b.x
  rotate_left
  · have d3 : (a.x == b.x) = false := by simp [h3]
    have H3 := hide h3
    clear h3
    go_enter Try.func8, Try.ntmps8
    go_wp2
    go_ret
    exact ⟨ret_no (fun e => H3.out (by rw [e])), (by (repeat' (first | (with_reducible exact Ext.refl _) | (with_reducible apply Ext.alloc) | (with_reducible apply Ext.drew) | (with_reducible refine Ext.setCell ?_ ?_ _))); all_goals (first | (simp; done) | (simp; omega) | omega))⟩
  have d3 : (a.x == b.x) = true := by simp [h3]
  have H3 := hide h3
  clear h3
  by_cases h4 : a.y = b.y
  rotate_left
  · have d4 : (a.y == b.y) = false := by simp [h4]
    have H4 := hide h4
    clear h4
    go_enter Try.func8, Try.ntmps8
    go_wp2
    go_ret
    exact ⟨ret_no (fun e => H4.out (by rw [e])), (by (repeat' (first | (with_reducible exact Ext.refl _) | (with_reducible apply Ext.alloc) | (with_reducible apply Ext.drew) | (with_reducible refine Ext.setCell ?_ ?_ _))); all_goals (first | (simp; done) | (simp; omega) | omega))⟩
  have d4 : (a.y == b.y) = true := by simp [h4]
  have H4 := hide h4
  clear h4
  by_cases h5 : a.k = b.k
  rotate_left
  · have d5 : (a.k == b.k) = false := by simp [h5]
    have H5 := hide h5
    clear h5
    go_enter Try.func8, Try.ntmps8
    go_wp2
    go_ret
    exact ⟨ret_no (fun e => H5.out (by rw [e])), (by (repeat' (first | (with_reducible exact Ext.refl _) | (with_reducible apply Ext.alloc) | (with_reducible apply Ext.drew) | (with_reducible refine Ext.setCell ?_ ?_ _))); all_goals (first | (simp; done) | (simp; omega) | omega))⟩
  have d5 : (a.k == b.k) = true := by simp [h5]
  have H5 := hide h5
  clear h5
  go_enter Try.func8, Try.ntmps8
  go_wp2_with fail
  refine (equalIrOps_any a.ops b.ops _ _ _ (hv1.ext (by (repeat' (first | (with_reducible exact Ext.refl _) | (with_reducible apply Ext.alloc) | (with_reducible apply Ext.drew) | (with_reducible refine Ext.setCell ?_ ?_ _))); all_goals (first | (simp; done) | (simp; omega) | omega))) (hu1.ext (by (repeat' (first | (with_reducible exact Ext.refl _) | (with_reducible apply Ext.alloc) | (with_reducible apply Ext.drew) | (with_reducible refine Ext.setCell ?_ ?_ _))); all_goals (first | (simp; done) | (simp; omega) | omega)))).mono ?_
  rintro e w1 ⟨rfl, hx1⟩
  have he1 : Ext w w1 := Ext.trans (by (repeat' (first | (with_reducible exact Ext.refl _) | (with_reducible apply Ext.alloc) | (with_reducible apply Ext.drew) | (with_reducible refine Ext.setCell ?_ ?_ _))); all_goals (first | (simp; done) | (simp; omega) | omega)) hx1
  by_cases h9 : a.ops = b.ops
  · have HE := hide ((IrBlock.same_iff a b).2 ⟨H0.out, H1.out, H2.out, H3.out, H4.out, H5.out, h9⟩)
    have d9 : decide (a.ops = b.ops) = true := by simp [h9]
    clear h9
    go_wp2
    go_ret
    exact ⟨ret_yes HE.out, he1⟩
  · have d9 : decide (a.ops = b.ops) = false := by simp [h9]
    have H9 := hide h9
    clear h9
    go_wp2
    go_ret
    exact ⟨ret_no (fun e => H9.out (by rw [e])), he1⟩

set_option maxHeartbeats 2000000 in
theorem specIrSame_any (a b : IrBlock) (v1 u1 : Value) (w : World) (hv1 : Sl w (Old w) v1 a.ops) (hu1 : Sl w (Old w) u1 b.ops) :
    Calls Try.prog 9 #[.agg #[.int .i64 a.pc, .int .i64 a.len, v1, .int .i64 a.fin, .int .i64 a.x, .int .i64 a.y, .int .i64 a.k], .agg #[.int .i64 b.pc, .int .i64 b.len, u1, .int .i64 b.fin, .int .i64 b.x, .int .i64 b.y, .int .i64 b.k]] w fun e w' => e = .returned (.bool (decide (a = b))) ∧ Ext w w' := by
  obtain ⟨Av1, cv1, rfl, hla, hma⟩ := hv1.form
  obtain ⟨Au1, cu1, rfl, hlb, hmb⟩ := hu1.form
  unfold maxLen at hma hmb
  by_cases h0 : a.pc = b.pc
  rotate_left
  · have d0 : (a.pc != b.pc) = true := by simp [h0]
    have H0 := hide h0
    clear h0
    go_enter Try.func9, Try.ntmps9
    go_wp2
    go_ret
    exact ⟨ret_no (fun e => H0.out (by rw [e])), (by (repeat' (first | (with_reducible exact Ext.refl _) | (with_reducible apply Ext.alloc) | (with_reducible apply Ext.drew) | (with_reducible refine Ext.setCell ?_ ?_ _))); all_goals (first | (simp; done) | (simp; omega) | omega))⟩
  have d0 : (a.pc != b.pc) = false := by simp [h0]
  have H0 := hide h0
  clear h0
  by_cases h1 : a.len = b.len
  rotate_left
  · have d1 : (a.len != b.len) = true := by simp [h1]
    have H1 := hide h1
    clear h1
    go_enter Try.func9, Try.ntmps9
    go_wp2
    go_ret
    exact ⟨ret_no (fun e => H1.out (by rw [e])), (by (repeat' (first | (with_reducible exact Ext.refl _) | (with_reducible apply Ext.alloc) | (with_reducible apply Ext.drew) | (with_reducible refine Ext.setCell ?_ ?_ _))); all_goals (first | (simp; done) | (simp; omega) | omega))⟩
  have d1 : (a.len != b.len) = false := by simp [h1]
  have H1 := hide h1
  clear h1
  by_cases h2 : a.fin = b.fin
  rotate_left
  · have d2 : (a.fin != b.fin) = true := by simp [h2]
    have H2 := hide h2
    clear h2
    go_enter Try.func9, Try.ntmps9
    go_wp2
    go_ret
    exact ⟨ret_no (fun e => H2.out (by rw [e])), (by (repeat' (first | (with_reducible exact Ext.refl _) | (with_reducible apply Ext.alloc) | (with_reducible apply Ext.drew) | (with_reducible refine Ext.setCell ?_ ?_ _))); all_goals (first | (simp; done) | (simp; omega) | omega))⟩
  have d2 : (a.fin != b.fin) = false := by simp [h2]
  have H2 := hide h2
  clear h2
  by_cases h3 : a.x = b.x
  rotate_left
  · have d3 : (a.x != b.x) = true := by simp [h3]
    have H3 := hide h3
    clear h3
    go_enter Try.func9, Try.ntmps9
    go_wp2
    go_ret
    exact ⟨ret_no (fun e => H3.out (by rw [e])), (by (repeat' (first | (with_reducible exact Ext.refl _) | (with_reducible apply Ext.alloc) | (with_reducible apply Ext.drew) | (with_reducible refine Ext.setCell ?_ ?_ _))); all_goals (first | (simp; done) | (simp; omega) | omega))⟩
  have d3 : (a.x != b.x) = false := by simp [h3]
  have H3 := hide h3
  clear h3
  by_cases h4 : a.y = b.y
  rotate_left
  · have d4 : (a.y != b.y) = true := by simp [h4]
    have H4 := hide h4
    clear h4
    go_enter Try.func9, Try.ntmps9
    go_wp2
    go_ret
    exact ⟨ret_no (fun e => H4.out (by rw [e])), (by (repeat' (first | (with_reducible exact Ext.refl _) | (with_reducible apply Ext.alloc) | (with_reducible apply Ext.drew) | (with_reducible refine Ext.setCell ?_ ?_ _))); all_goals (first | (simp; done) | (simp; omega) | omega))⟩
  have d4 : (a.y != b.y) = false := by simp [h4]
  have H4 := hide h4
  clear h4
  by_cases h5 : a.k = b.k
  rotate_left
  · have d5 : (a.k != b.k) = true := by simp [h5]
    have H5 := hide h5
    clear h5
    go_enter Try.func9, Try.ntmps9
    go_wp2
    go_ret
    exact ⟨ret_no (fun e => H5.out (by rw [e])), (by (repeat' (first | (with_reducible exact Ext.refl _) | (with_reducible apply Ext.alloc) | (with_reducible apply Ext.drew) | (with_reducible refine Ext.setCell ?_ ?_ _))); all_goals (first | (simp; done) | (simp; omega) | omega))⟩
  have d5 : (a.k != b.k) = false := by simp [h5]
  have H5 := hide h5
  clear h5
  by_cases hl : a.ops.length = b.ops.length
  rotate_left
  · have hn : ((a.ops.length : Int) != (b.ops.length : Int)) = true := by simp; omega
    have HL := hide hl
    clear hl
    go_enter Try.func9, Try.ntmps9
    go_wp2
    go_ret
    exact ⟨ret_no (fun e => HL.out (by rw [e])), (by (repeat' (first | (with_reducible exact Ext.refl _) | (with_reducible apply Ext.alloc) | (with_reducible apply Ext.drew) | (with_reducible refine Ext.setCell ?_ ?_ _))); all_goals (first | (simp; done) | (simp; omega) | omega))⟩
  have hn : ((a.ops.length : Int) != (b.ops.length : Int)) = false := by simp [hl]
  have HL := hide hl
  clear hl
  go_enter Try.func9, Try.ntmps9
  go_wp2
  go_loopw [5] (fun i wr => ∃ k : Nat, k ≤ a.ops.length ∧ i = .int .i64 k ∧ Ext ((w.alloc (.cells #[.int .i64 a.pc, .int .i64 a.len, .slice Av1 a.ops.length cv1, .int .i64 a.fin, .int .i64 a.x, .int .i64 a.y, .int .i64 a.k] 25)).alloc (.cells #[.int .i64 b.pc, .int .i64 b.len, .slice Au1 b.ops.length cu1, .int .i64 b.fin, .int .i64 b.x, .int .i64 b.y, .int .i64 b.k] 25)) wr ∧ a.ops.take k = b.ops.take k) (fun i _ => a.ops.length - (intOf i).toNat)
  case atStart => exact ⟨0, by omega, rfl, Ext.refl _, rfl⟩
  case round =>
    obtain ⟨k, hk, rfl, he0, ht⟩ := hrel
    have HT := hide ht
    clear ht
    have he : Ext w wr := Ext.trans (by (repeat' (first | (with_reducible exact Ext.refl _) | (with_reducible apply Ext.alloc) | (with_reducible apply Ext.drew) | (with_reducible refine Ext.setCell ?_ ?_ _))); all_goals (first | (simp; done) | (simp; omega) | omega)) he0
    have hc1 := fun b o (hb : b < w.heap.size + 1 + 1) => he0.cell (b := b) (o := o) (by first | omega | (simp; omega))
    by_cases hlt : k < a.ops.length
    · have hlt' : k < b.ops.length := by have := HL.out; omega
      obtain ⟨b0, off0, rfl, hbo0, hke, e0, e1, e2, e3, e4⟩ := at_IrOp (hv1.ext he) hlt
      obtain ⟨b1, off1, rfl, hbo1, hkg, g0, g1, g2, g3, g4⟩ := at_IrOp (hu1.ext he) hlt'
      have z0 : (0 : Int) ≤ (k : Int) := by omega
      have z1 : (k : Int) < (a.ops.length : Int) := by omega
      have z2 : (k : Int) < (b.ops.length : Int) := by omega
      have TS := hide (take_both a.ops b.ops k hlt hlt' HT.out)
      by_cases hq : a.ops[k] = b.ops[k]
      · have d1 : ∀ w, (binOp .neq 58 (.agg #[.int .i64 a.ops[k].kind, .int .i64 a.ops[k].x, .int .i64 a.ops[k].y, .int .i64 a.ops[k].k, .int .i64 a.ops[k].at_]) (.agg #[.int .i64 b.ops[k].kind, .int .i64 b.ops[k].x, .int .i64 b.ops[k].y, .int .i64 b.ops[k].k, .int .i64 b.ops[k].at_])).run Try.prog w = .ok (.bool false) w := fun w => by rw [neqIrOp]; simp [hq]
        have HQ := hide hq
        clear hq
        go_wp2_with fail
        go_quiet (fail)
        go_wp2
        go_roundw
        case rel => exact ⟨k + 1, by omega, by go_num, he0.drewN _, TS.out.1 HQ.out⟩
        case measure => simp [intOf]; omega
      · have d1 : ∀ w, (binOp .neq 58 (.agg #[.int .i64 a.ops[k].kind, .int .i64 a.ops[k].x, .int .i64 a.ops[k].y, .int .i64 a.ops[k].k, .int .i64 a.ops[k].at_]) (.agg #[.int .i64 b.ops[k].kind, .int .i64 b.ops[k].x, .int .i64 b.ops[k].y, .int .i64 b.ops[k].k, .int .i64 b.ops[k].at_])).run Try.prog w = .ok (.bool true) w := fun w => by rw [neqIrOp]; simp [hq]
        have HQ := hide hq
        clear hq
        go_wp2_with fail
        go_quiet (fail)
        go_wp2
        go_ret
        exact ⟨ret_no (fun e => TS.out.2 HQ.out (by rw [e])), he.drewN _⟩
    · obtain rfl : k = a.ops.length := by omega
      go_wp2
      go_ret
      exact ⟨ret_yes ((IrBlock.same_iff a b).2 ⟨H0.out, H1.out, H2.out, H3.out, H4.out, H5.out, take_all a.ops b.ops HL.out HT.out⟩), he⟩

end Go.Proofs.Yteaacelfnkiboaa
