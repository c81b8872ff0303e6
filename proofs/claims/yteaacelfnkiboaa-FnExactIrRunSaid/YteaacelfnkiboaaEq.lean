/-
  The laws hold two values against each other (eq..): the answer is whether they read as one.
-/
import Derived.Test.YteaacelfnkiboaaRows
import Derived.Test.YteaacelfnkiboaaTy
import Derived.Deep.QuietTactic
import Derived.BigQuiet
import Derived.StillTailTactics
namespace Go.Proofs.Yteaacelfnkiboaa
open Go.RowKit

set_option linter.unusedVariables false
set_option linter.unusedSimpArgs false
set_option maxRecDepth 100000

set_option maxHeartbeats 1000000 in
theorem eq_ListInt (la lb : List Int) (va vb : Value) (w : World) (ha : Sl w (Old w) va la) (hb : Sl w (Old w) vb lb) :
    Calls Try.prog 65 #[va, vb] w fun e w' => e = .returned (.bool (decide (la = lb))) ∧ Ext w w' := by
  obtain ⟨A, ca, rfl, hla, hma⟩ := ha.form
  obtain ⟨B, cb, rfl, hlb, hmb⟩ := hb.form
  unfold maxLen at hma hmb
  by_cases hl : la.length = lb.length
  · have hn : ((la.length : Int) != (lb.length : Int)) = false := by simp [hl]
    have HL := hide hl
    clear hl
    go_enter Try.func65, Try.ntmps65
    go_wp2
    go_loopw [5] (fun i wr => ∃ k : Nat, k ≤ la.length ∧ i = .int .i64 k ∧ Ext w wr ∧ la.take k = lb.take k) (fun i _ => la.length - (intOf i).toNat)
    case atStart => exact ⟨0, by omega, rfl, Ext.refl _, rfl⟩
    case round =>
      obtain ⟨k, hk, rfl, he, ht⟩ := hrel
      have HT := hide ht
      clear ht
      by_cases hlt : k < la.length
      · have hlt' : k < lb.length := by have := HL.out; omega
        obtain ⟨b, off, rfl, hbo, hk0, e0⟩ := at_Int (ha.ext he) hlt
        obtain ⟨b', off', rfl, hbo', hk1, g0⟩ := at_Int (hb.ext he) hlt'
        have z0 : (0 : Int) ≤ (k : Int) := by omega
        have z1 : (k : Int) < (la.length : Int) := by omega
        have z2 : (k : Int) < (lb.length : Int) := by omega
        have TS := hide (take_both la lb k hlt hlt' HT.out)
        go_wp2_with fail
        by_cases hq : la[k] = lb[k]
        · have d1 : (la[k] != lb[k]) = false := by simp [hq]
          have HQ := hide hq
          clear hq
          go_quiet (fail)
          go_wp2
          go_roundw
          case rel => exact ⟨k + 1, by omega, by go_num, he.drewN _, TS.out.1 HQ.out⟩
          case measure => simp [intOf]; omega
        · have d1 : (la[k] != lb[k]) = true := by simp [hq]
          have HQ := hide hq
          clear hq
          go_quiet (fail)
          go_wp2
          go_ret
          exact ⟨ret_no (TS.out.2 HQ.out), he.drewN _⟩
      · obtain rfl : k = la.length := by omega
        go_wp2
        go_ret
        exact ⟨ret_yes (take_all la lb HL.out HT.out), he⟩
  · have hn : ((la.length : Int) != (lb.length : Int)) = true := by simp; omega
    have HL := hide hl
    clear hl
    go_enter Try.func65, Try.ntmps65
    go_wp2
    go_ret
    exact ⟨ret_no (fun e => HL.out (by rw [e])), Ext.refl _⟩

set_option maxHeartbeats 1000000 in
theorem eq_IrOp (a b : IrOp) (w : World)  :
    Calls Try.prog 97 #[.agg #[.int .i64 a.kind, .int .i64 a.x, .int .i64 a.y, .int .i64 a.k, .int .i64 a.at_], .agg #[.int .i64 b.kind, .int .i64 b.x, .int .i64 b.y, .int .i64 b.k, .int .i64 b.at_]] w fun e w' => e = .returned (.bool (decide (a = b))) ∧ Ext w w' := by
  go_enter Try.func97, Try.ntmps97
  by_cases h1 : a.kind = b.kind
  rotate_left
  · have d1 : (a.kind != b.kind) = true := by simp [h1]
    have H1 := hide h1
    clear h1
    go_wp2
    go_ret
    exact ⟨ret_no (fun e => H1.out (by rw [e])), (Ext.auto)⟩
  have d1 : (a.kind != b.kind) = false := by simp [h1]
  have H1 := hide h1
  clear h1
  by_cases h2 : a.x = b.x
  rotate_left
  · have d2 : (a.x != b.x) = true := by simp [h2]
    have H2 := hide h2
    clear h2
    go_wp2
    go_ret
    exact ⟨ret_no (fun e => H2.out (by rw [e])), (Ext.auto)⟩
  have d2 : (a.x != b.x) = false := by simp [h2]
  have H2 := hide h2
  clear h2
  by_cases h3 : a.y = b.y
  rotate_left
  · have d3 : (a.y != b.y) = true := by simp [h3]
    have H3 := hide h3
    clear h3
    go_wp2
    go_ret
    exact ⟨ret_no (fun e => H3.out (by rw [e])), (Ext.auto)⟩
  have d3 : (a.y != b.y) = false := by simp [h3]
  have H3 := hide h3
  clear h3
  by_cases h4 : a.k = b.k
  rotate_left
  · have d4 : (a.k != b.k) = true := by simp [h4]
    have H4 := hide h4
    clear h4
    go_wp2
    go_ret
    exact ⟨ret_no (fun e => H4.out (by rw [e])), (Ext.auto)⟩
  have d4 : (a.k != b.k) = false := by simp [h4]
  have H4 := hide h4
  clear h4
  by_cases h5 : a.at_ = b.at_
  rotate_left
  · have d5 : (a.at_ != b.at_) = true := by simp [h5]
    have H5 := hide h5
    clear h5
    go_wp2
    go_ret
    exact ⟨ret_no (fun e => H5.out (by rw [e])), (Ext.auto)⟩
  have d5 : (a.at_ != b.at_) = false := by simp [h5]
  have H5 := hide h5
  clear h5
  go_wp2
  go_ret
  exact ⟨ret_yes ((IrOp.eq_iff a b).2 ⟨H1.out, H2.out, H3.out, H4.out, H5.out⟩), (Ext.auto)⟩

set_option maxHeartbeats 1000000 in
theorem eq_ListIrOp (la lb : List IrOp) (va vb : Value) (w : World) (ha : Sl w (Old w) va la) (hb : Sl w (Old w) vb lb) :
    Calls Try.prog 66 #[va, vb] w fun e w' => e = .returned (.bool (decide (la = lb))) ∧ Ext w w' := by
  obtain ⟨A, ca, rfl, hla, hma⟩ := ha.form
  obtain ⟨B, cb, rfl, hlb, hmb⟩ := hb.form
  unfold maxLen at hma hmb
  by_cases hl : la.length = lb.length
  · have hn : ((la.length : Int) != (lb.length : Int)) = false := by simp [hl]
    have HL := hide hl
    clear hl
    go_enter Try.func66, Try.ntmps66
    go_wp2
    go_loopw [5] (fun i wr => ∃ k : Nat, k ≤ la.length ∧ i = .int .i64 k ∧ Ext w wr ∧ la.take k = lb.take k) (fun i _ => la.length - (intOf i).toNat)
    case atStart => exact ⟨0, by omega, rfl, Ext.refl _, rfl⟩
    case round =>
      obtain ⟨k, hk, rfl, he, ht⟩ := hrel
      have HT := hide ht
      clear ht
      by_cases hlt : k < la.length
      · have hlt' : k < lb.length := by have := HL.out; omega
        obtain ⟨b, off, rfl, hbo, hk0, e0, e1, e2, e3, e4⟩ := at_IrOp (ha.ext he) hlt
        obtain ⟨b', off', rfl, hbo', hk1, g0, g1, g2, g3, g4⟩ := at_IrOp (hb.ext he) hlt'
        have z0 : (0 : Int) ≤ (k : Int) := by omega
        have z1 : (k : Int) < (la.length : Int) := by omega
        have z2 : (k : Int) < (lb.length : Int) := by omega
        have TS := hide (take_both la lb k hlt hlt' HT.out)
        go_wp2_with fail
        go_still_tail 8, (by kernel_rfl)
        change wpList _ _ _ _ _ wr.drew
        go_wp2_with fail
        refine (eq_IrOp la[k] lb[k]  _ ).mono ?_
        rintro e w1 ⟨rfl, hx⟩
        have he1 : Ext w w1 := Ext.trans he.drew hx
        by_cases hq : la[k] = lb[k]
        · have d1 : decide (la[k] = lb[k]) = true := by simp [hq]
          have HQ := hide hq
          clear hq
          go_wp2
          go_roundw
          case rel => exact ⟨k + 1, by omega, by go_num, he1, TS.out.1 HQ.out⟩
          case measure => simp [intOf]; omega
        · have d1 : decide (la[k] = lb[k]) = false := by simp [hq]
          have HQ := hide hq
          clear hq
          go_wp2
          go_ret
          exact ⟨ret_no (TS.out.2 HQ.out), he1⟩
      · obtain rfl : k = la.length := by omega
        go_wp2
        go_ret
        exact ⟨ret_yes (take_all la lb HL.out HT.out), he⟩
  · have hn : ((la.length : Int) != (lb.length : Int)) = true := by simp; omega
    have HL := hide hl
    clear hl
    go_enter Try.func66, Try.ntmps66
    go_wp2
    go_ret
    exact ⟨ret_no (fun e => HL.out (by rw [e])), Ext.refl _⟩

set_option maxHeartbeats 1000000 in
theorem eq_IrBlock (a b : IrBlock) (v1 u1 : Value) (w : World) (hv1 : Sl w (Old w) v1 a.ops) (hu1 : Sl w (Old w) u1 b.ops):
    Calls Try.prog 28 #[.agg #[.int .i64 a.pc, .int .i64 a.len, v1, .int .i64 a.fin, .int .i64 a.x, .int .i64 a.y, .int .i64 a.k], .agg #[.int .i64 b.pc, .int .i64 b.len, u1, .int .i64 b.fin, .int .i64 b.x, .int .i64 b.y, .int .i64 b.k]] w fun e w' => e = .returned (.bool (decide (a = b))) ∧ Ext w w' := by
  obtain ⟨Av1, cv1, rfl, -, -⟩ := hv1.form
  obtain ⟨Au1, cu1, rfl, -, -⟩ := hu1.form
  go_enter Try.func28, Try.ntmps28
  by_cases h1 : a.pc = b.pc
  rotate_left
  · have d1 : (a.pc != b.pc) = true := by simp [h1]
    have H1 := hide h1
    clear h1
    go_wp2
    go_ret
    exact ⟨ret_no (fun e => H1.out (by rw [e])), (Ext.auto)⟩
  have d1 : (a.pc != b.pc) = false := by simp [h1]
  have H1 := hide h1
  clear h1
  by_cases h2 : a.len = b.len
  rotate_left
  · have d2 : (a.len != b.len) = true := by simp [h2]
    have H2 := hide h2
    clear h2
    go_wp2
    go_ret
    exact ⟨ret_no (fun e => H2.out (by rw [e])), (Ext.auto)⟩
  have d2 : (a.len != b.len) = false := by simp [h2]
  have H2 := hide h2
  clear h2
  go_wp2_with fail
  refine (eq_ListIrOp a.ops b.ops _ _ _ (hv1.ext (Ext.auto)) (hu1.ext (Ext.auto))).mono ?_
  rintro e w1 ⟨rfl, hx1⟩
  have hs1 := hx1.size
  try simp at hs1
  have he1 : Ext w w1 := Ext.trans (Ext.auto) hx1
  have hc1 := fun b o (hb : b < w.heap.size + 1 + 1) => hx1.cell (b := b) (o := o) (by first | omega | (simp; omega))
  have hg1 := fun b o (hb : b < w.heap.size + 1 + 1) => hx1.frozen (b := b) (o := o) (by first | omega | (simp; omega))
  by_cases h3 : a.ops = b.ops
  rotate_left
  · have d3 : decide (a.ops = b.ops) = false := by simp [h3]
    have H3 := hide h3
    clear h3
    go_wp2
    go_ret
    exact ⟨ret_no (fun e => H3.out (by rw [e])), (Ext.hold he1)⟩
  have d3 : decide (a.ops = b.ops) = true := by simp [h3]
  have H3 := hide h3
  clear h3
  by_cases h4 : a.fin = b.fin
  rotate_left
  · have d4 : (a.fin != b.fin) = true := by simp [h4]
    have H4 := hide h4
    clear h4
    go_wp2
    go_ret
    exact ⟨ret_no (fun e => H4.out (by rw [e])), (Ext.hold he1)⟩
  have d4 : (a.fin != b.fin) = false := by simp [h4]
  have H4 := hide h4
  clear h4
  by_cases h5 : a.x = b.x
  rotate_left
  · have d5 : (a.x != b.x) = true := by simp [h5]
    have H5 := hide h5
    clear h5
    go_wp2
    go_ret
    exact ⟨ret_no (fun e => H5.out (by rw [e])), (Ext.hold he1)⟩
  have d5 : (a.x != b.x) = false := by simp [h5]
  have H5 := hide h5
  clear h5
  by_cases h6 : a.y = b.y
  rotate_left
  · have d6 : (a.y != b.y) = true := by simp [h6]
    have H6 := hide h6
    clear h6
    go_wp2
    go_ret
    exact ⟨ret_no (fun e => H6.out (by rw [e])), (Ext.hold he1)⟩
  have d6 : (a.y != b.y) = false := by simp [h6]
  have H6 := hide h6
  clear h6
  by_cases h7 : a.k = b.k
  rotate_left
  · have d7 : (a.k != b.k) = true := by simp [h7]
    have H7 := hide h7
    clear h7
    go_wp2
    go_ret
    exact ⟨ret_no (fun e => H7.out (by rw [e])), (Ext.hold he1)⟩
  have d7 : (a.k != b.k) = false := by simp [h7]
  have H7 := hide h7
  clear h7
  go_wp2
  go_ret
  exact ⟨ret_yes ((IrBlock.eq_iff a b).2 ⟨H1.out, H2.out, H3.out, H4.out, H5.out, H6.out, H7.out⟩), (Ext.hold he1)⟩

set_option maxHeartbeats 1000000 in
theorem eq_MchMach (a b : MchMach) (v1 v2 v3 v4 u1 u2 u3 u4 : Value) (w : World) (hv1 : Sl w (Old w) v1 a.regs) (hv2 : Sl w (Old w) v2 a.mem) (hv3 : Sl w (Old w) v3 a.ins) (hv4 : Sl w (Old w) v4 a.outs) (hu1 : Sl w (Old w) u1 b.regs) (hu2 : Sl w (Old w) u2 b.mem) (hu3 : Sl w (Old w) u3 b.ins) (hu4 : Sl w (Old w) u4 b.outs):
    Calls Try.prog 27 #[.agg #[v1, .int .i64 a.pc, v2, .int .i64 a.save, .bool a.lets, .bool a.waits, .int .i64 a.halt, v3, v4, .int .i64 a.count], .agg #[u1, .int .i64 b.pc, u2, .int .i64 b.save, .bool b.lets, .bool b.waits, .int .i64 b.halt, u3, u4, .int .i64 b.count]] w fun e w' => e = .returned (.bool (decide (a = b))) ∧ Ext w w' := by
  obtain ⟨Av1, cv1, rfl, -, -⟩ := hv1.form
  obtain ⟨Av2, cv2, rfl, -, -⟩ := hv2.form
  obtain ⟨Av3, cv3, rfl, -, -⟩ := hv3.form
  obtain ⟨Av4, cv4, rfl, -, -⟩ := hv4.form
  obtain ⟨Au1, cu1, rfl, -, -⟩ := hu1.form
  obtain ⟨Au2, cu2, rfl, -, -⟩ := hu2.form
  obtain ⟨Au3, cu3, rfl, -, -⟩ := hu3.form
  obtain ⟨Au4, cu4, rfl, -, -⟩ := hu4.form
  go_enter Try.func27, Try.ntmps27
  go_wp2_with fail
  refine (eq_ListInt a.regs b.regs _ _ _ (hv1.ext (Ext.auto)) (hu1.ext (Ext.auto))).mono ?_
  rintro e w1 ⟨rfl, hx1⟩
  have hs1 := hx1.size
  try simp at hs1
  have he1 : Ext w w1 := Ext.trans (Ext.auto) hx1
  have hc1 := fun b o (hb : b < w.heap.size + 1 + 1) => hx1.cell (b := b) (o := o) (by first | omega | (simp; omega))
  have hg1 := fun b o (hb : b < w.heap.size + 1 + 1) => hx1.frozen (b := b) (o := o) (by first | omega | (simp; omega))
  by_cases h1 : a.regs = b.regs
  rotate_left
  · have d1 : decide (a.regs = b.regs) = false := by simp [h1]
    have H1 := hide h1
    clear h1
    go_wp2
    go_ret
    exact ⟨ret_no (fun e => H1.out (by rw [e])), (Ext.hold he1)⟩
  have d1 : decide (a.regs = b.regs) = true := by simp [h1]
  have H1 := hide h1
  clear h1
  by_cases h2 : a.pc = b.pc
  rotate_left
  · have d2 : (a.pc != b.pc) = true := by simp [h2]
    have H2 := hide h2
    clear h2
    go_wp2
    go_ret
    exact ⟨ret_no (fun e => H2.out (by rw [e])), (Ext.hold he1)⟩
  have d2 : (a.pc != b.pc) = false := by simp [h2]
  have H2 := hide h2
  clear h2
  go_wp2_with fail
  refine (eq_ListInt a.mem b.mem _ _ _ (hv2.ext (Ext.hold he1)) (hu2.ext (Ext.hold he1))).mono ?_
  rintro e w2 ⟨rfl, hx2⟩
  have hs2 := hx2.size
  try simp at hs2
  have he2 : Ext w w2 := Ext.trans (Ext.hold he1) hx2
  have hc2 := fun b o (hb : b < w.heap.size + 1 + 1) => hx2.cell (b := b) (o := o) (by first | omega | (simp; omega))
  have hg2 := fun b o (hb : b < w.heap.size + 1 + 1) => hx2.frozen (b := b) (o := o) (by first | omega | (simp; omega))
  by_cases h3 : a.mem = b.mem
  rotate_left
  · have d3 : decide (a.mem = b.mem) = false := by simp [h3]
    have H3 := hide h3
    clear h3
    go_wp2
    go_ret
    exact ⟨ret_no (fun e => H3.out (by rw [e])), (Ext.hold2 he2 he1)⟩
  have d3 : decide (a.mem = b.mem) = true := by simp [h3]
  have H3 := hide h3
  clear h3
  by_cases h4 : a.save = b.save
  rotate_left
  · have d4 : (a.save != b.save) = true := by simp [h4]
    have H4 := hide h4
    clear h4
    go_wp2
    go_ret
    exact ⟨ret_no (fun e => H4.out (by rw [e])), (Ext.hold2 he2 he1)⟩
  have d4 : (a.save != b.save) = false := by simp [h4]
  have H4 := hide h4
  clear h4
  by_cases h5 : a.lets = b.lets
  rotate_left
  · have d5 : (a.lets == b.lets) = false := by simp [h5]
    have H5 := hide h5
    clear h5
    go_wp2
    go_ret
    exact ⟨ret_no (fun e => H5.out (by rw [e])), (Ext.hold2 he2 he1)⟩
  have d5 : (a.lets == b.lets) = true := by simp [h5]
  have H5 := hide h5
  clear h5
  by_cases h6 : a.waits = b.waits
  rotate_left
  · have d6 : (a.waits == b.waits) = false := by simp [h6]
    have H6 := hide h6
    clear h6
    go_wp2
    go_ret
    exact ⟨ret_no (fun e => H6.out (by rw [e])), (Ext.hold2 he2 he1)⟩
  have d6 : (a.waits == b.waits) = true := by simp [h6]
  have H6 := hide h6
  clear h6
  by_cases h7 : a.halt = b.halt
  rotate_left
  · have d7 : (a.halt != b.halt) = true := by simp [h7]
    have H7 := hide h7
    clear h7
    go_wp2
    go_ret
    exact ⟨ret_no (fun e => H7.out (by rw [e])), (Ext.hold2 he2 he1)⟩
  have d7 : (a.halt != b.halt) = false := by simp [h7]
  have H7 := hide h7
  clear h7
  go_wp2_with fail
  refine (eq_ListInt a.ins b.ins _ _ _ (hv3.ext (Ext.hold2 he2 he1)) (hu3.ext (Ext.hold2 he2 he1))).mono ?_
  rintro e w3 ⟨rfl, hx3⟩
  have hs3 := hx3.size
  try simp at hs3
  have he3 : Ext w w3 := Ext.trans (Ext.hold2 he2 he1) hx3
  have hc3 := fun b o (hb : b < w.heap.size + 1 + 1) => hx3.cell (b := b) (o := o) (by first | omega | (simp; omega))
  have hg3 := fun b o (hb : b < w.heap.size + 1 + 1) => hx3.frozen (b := b) (o := o) (by first | omega | (simp; omega))
  by_cases h8 : a.ins = b.ins
  rotate_left
  · have d8 : decide (a.ins = b.ins) = false := by simp [h8]
    have H8 := hide h8
    clear h8
    go_wp2
    go_ret
    exact ⟨ret_no (fun e => H8.out (by rw [e])), (by (repeat' (first | (with_reducible exact Ext.refl _) | (with_reducible exact he3) | (with_reducible exact he2) | (with_reducible exact he1) | (with_reducible apply Ext.alloc) | (with_reducible apply Ext.drew) | (with_reducible refine Ext.setCell ?_ ?_ _))); all_goals (first | (simp; done) | (simp; omega) | omega))⟩
  have d8 : decide (a.ins = b.ins) = true := by simp [h8]
  have H8 := hide h8
  clear h8
  go_wp2_with fail
  refine (eq_ListInt a.outs b.outs _ _ _ (hv4.ext (by (repeat' (first | (with_reducible exact Ext.refl _) | (with_reducible exact he3) | (with_reducible exact he2) | (with_reducible exact he1) | (with_reducible apply Ext.alloc) | (with_reducible apply Ext.drew) | (with_reducible refine Ext.setCell ?_ ?_ _))); all_goals (first | (simp; done) | (simp; omega) | omega))) (hu4.ext (by (repeat' (first | (with_reducible exact Ext.refl _) | (with_reducible exact he3) | (with_reducible exact he2) | (with_reducible exact he1) | (with_reducible apply Ext.alloc) | (with_reducible apply Ext.drew) | (with_reducible refine Ext.setCell ?_ ?_ _))); all_goals (first | (simp; done) | (simp; omega) | omega)))).mono ?_
  rintro e w4 ⟨rfl, hx4⟩
  have hs4 := hx4.size
  try simp at hs4
  have he4 : Ext w w4 := Ext.trans (by (repeat' (first | (with_reducible exact Ext.refl _) | (with_reducible exact he3) | (with_reducible exact he2) | (with_reducible exact he1) | (with_reducible apply Ext.alloc) | (with_reducible apply Ext.drew) | (with_reducible refine Ext.setCell ?_ ?_ _))); all_goals (first | (simp; done) | (simp; omega) | omega)) hx4
  have hc4 := fun b o (hb : b < w.heap.size + 1 + 1) => hx4.cell (b := b) (o := o) (by first | omega | (simp; omega))
  have hg4 := fun b o (hb : b < w.heap.size + 1 + 1) => hx4.frozen (b := b) (o := o) (by first | omega | (simp; omega))
  by_cases h9 : a.outs = b.outs
  rotate_left
  · have d9 : decide (a.outs = b.outs) = false := by simp [h9]
    have H9 := hide h9
    clear h9
    go_wp2
    go_ret
    exact ⟨ret_no (fun e => H9.out (by rw [e])), (by (repeat' (first | (with_reducible exact Ext.refl _) | (with_reducible exact he4) | (with_reducible exact he3) | (with_reducible exact he2) | (with_reducible exact he1) | (with_reducible apply Ext.alloc) | (with_reducible apply Ext.drew) | (with_reducible refine Ext.setCell ?_ ?_ _))); all_goals (first | (simp; done) | (simp; omega) | omega))⟩
  have d9 : decide (a.outs = b.outs) = true := by simp [h9]
  have H9 := hide h9
  clear h9
  by_cases h10 : a.count = b.count
  rotate_left
  · have d10 : (a.count != b.count) = true := by simp [h10]
    have H10 := hide h10
    clear h10
    go_wp2
    go_ret
    exact ⟨ret_no (fun e => H10.out (by rw [e])), (by (repeat' (first | (with_reducible exact Ext.refl _) | (with_reducible exact he4) | (with_reducible exact he3) | (with_reducible exact he2) | (with_reducible exact he1) | (with_reducible apply Ext.alloc) | (with_reducible apply Ext.drew) | (with_reducible refine Ext.setCell ?_ ?_ _))); all_goals (first | (simp; done) | (simp; omega) | omega))⟩
  have d10 : (a.count != b.count) = false := by simp [h10]
  have H10 := hide h10
  clear h10
  go_wp2
  go_ret
  exact ⟨ret_yes ((MchMach.eq_iff a b).2 ⟨H1.out, H2.out, H3.out, H4.out, H5.out, H6.out, H7.out, H8.out, H9.out, H10.out⟩), (by (repeat' (first | (with_reducible exact Ext.refl _) | (with_reducible exact he4) | (with_reducible exact he3) | (with_reducible exact he2) | (with_reducible exact he1) | (with_reducible apply Ext.alloc) | (with_reducible apply Ext.drew) | (with_reducible refine Ext.setCell ?_ ?_ _))); all_goals (first | (simp; done) | (simp; omega) | omega))⟩

end Go.Proofs.Yteaacelfnkiboaa
