/-
  The laws hold two values against each other (eq..): the answer is whether they read as one.
-/
import Derived.Test.YtjemadbhpbbhlaaRows
import Derived.Test.YtjemadbhpbbhlaaTy
import Derived.Deep.QuietTactic
import Derived.BigQuiet
import Derived.StillTailTactics
namespace Go.Proofs.Ytjemadbhpbbhlaa
open Go.RowKit

set_option linter.unusedVariables false
set_option linter.unusedSimpArgs false
set_option maxRecDepth 100000

set_option maxHeartbeats 1000000 in
theorem eq_ListInt (la lb : List Int) (va vb : Value) (w : World) (ha : Sl w (Old w) va la) (hb : Sl w (Old w) vb lb) :
    Calls Try.prog 67 #[va, vb] w fun e w' => e = .returned (.bool (decide (la = lb))) ∧ Ext w w' := by
  obtain ⟨A, ca, rfl, hla, hma⟩ := ha.form
  obtain ⟨B, cb, rfl, hlb, hmb⟩ := hb.form
  unfold maxLen at hma hmb
  by_cases hl : la.length = lb.length
  · have hn : ((la.length : Int) != (lb.length : Int)) = false := by simp [hl]
    have HL := hide hl
    clear hl
    go_enter Try.func67, Try.ntmps67
    go_wp2
    go_loopw [5] (fun i wr => ∃ k : Nat, k ≤ la.length ∧ i = .int .i64 k ∧ Ext w wr ∧ la.take k = lb.take k) (fun i _ => la.length - (intOf i).toNat)
    case atStart => exact ⟨0, by omega, rfl, Ext.refl _, rfl⟩
    case round =>
      obtain ⟨k, hk, rfl, he, ht⟩ := hrel
      have HT := hide ht
      clear ht
      by_cases hlt : k < la.length
      · have hlt' : k < lb.length := by have := HL.out; omega
        obtain ⟨b, off, rfl, hbo, hk0, e0⟩ := at_Int (ha.ext he) hlt
        obtain ⟨b', off', rfl, hbo', hk1, g0⟩ := at_Int (hb.ext he) hlt'
        have z0 : (0 : Int) ≤ (k : Int) := by omega
        have z1 : (k : Int) < (la.length : Int) := by omega
        have z2 : (k : Int) < (lb.length : Int) := by omega
        have TS := hide (take_both la lb k hlt hlt' HT.out)
        go_wp2_with fail
        by_cases hq : la[k] = lb[k]
        · have d1 : (la[k] != lb[k]) = false := by simp [hq]
          have HQ := hide hq
          clear hq
          go_quiet (fail)
          go_wp2
          go_roundw
          case rel => exact ⟨k + 1, by omega, by go_num, he.drewN _, TS.out.1 HQ.out⟩
          case measure => simp [intOf]; omega
        · have d1 : (la[k] != lb[k]) = true := by simp [hq]
          have HQ := hide hq
          clear hq
          go_quiet (fail)
          go_wp2
          go_ret
          exact ⟨ret_no (TS.out.2 HQ.out), he.drewN _⟩
      · obtain rfl : k = la.length := by omega
        go_wp2
        go_ret
        exact ⟨ret_yes (take_all la lb HL.out HT.out), he⟩
  · have hn : ((la.length : Int) != (lb.length : Int)) = true := by simp; omega
    have HL := hide hl
    clear hl
    go_enter Try.func67, Try.ntmps67
    go_wp2
    go_ret
    exact ⟨ret_no (fun e => HL.out (by rw [e])), Ext.refl _⟩

set_option maxHeartbeats 1000000 in
theorem eq_ListBool (la lb : List Bool) (va vb : Value) (w : World) (ha : Sl w (Old w) va la) (hb : Sl w (Old w) vb lb) :
    Calls Try.prog 31 #[va, vb] w fun e w' => e = .returned (.bool (decide (la = lb))) ∧ Ext w w' := by
  obtain ⟨A, ca, rfl, hla, hma⟩ := ha.form
  obtain ⟨B, cb, rfl, hlb, hmb⟩ := hb.form
  unfold maxLen at hma hmb
  by_cases hl : la.length = lb.length
  · have hn : ((la.length : Int) != (lb.length : Int)) = false := by simp [hl]
    have HL := hide hl
    clear hl
    go_enter Try.func31, Try.ntmps31
    go_wp2
    go_loopw [5] (fun i wr => ∃ k : Nat, k ≤ la.length ∧ i = .int .i64 k ∧ Ext w wr ∧ la.take k = lb.take k) (fun i _ => la.length - (intOf i).toNat)
    case atStart => exact ⟨0, by omega, rfl, Ext.refl _, rfl⟩
    case round =>
      obtain ⟨k, hk, rfl, he, ht⟩ := hrel
      have HT := hide ht
      clear ht
      by_cases hlt : k < la.length
      · have hlt' : k < lb.length := by have := HL.out; omega
        obtain ⟨b, off, rfl, hbo, e0⟩ := at_Bool (ha.ext he) hlt
        obtain ⟨b', off', rfl, hbo', g0⟩ := at_Bool (hb.ext he) hlt'
        have z0 : (0 : Int) ≤ (k : Int) := by omega
        have z1 : (k : Int) < (la.length : Int) := by omega
        have z2 : (k : Int) < (lb.length : Int) := by omega
        have TS := hide (take_both la lb k hlt hlt' HT.out)
        go_wp2_with fail
        generalize la[k] = x at e0 TS
        generalize lb[k] = y at g0 TS
        clear HT
        cases x <;> cases y
        all_goals
          go_quiet (fail)
          go_wp2
          first
            | (go_ret; exact ⟨ret_no (TS.out.2 (by decide)), he.drewN _⟩)
            | exact ⟨⟨k + 1, by omega, by go_num, he.drewN _, TS.out.1 rfl⟩, by simp [intOf]; omega⟩
      · obtain rfl : k = la.length := by omega
        go_wp2
        go_ret
        exact ⟨ret_yes (take_all la lb HL.out HT.out), he⟩
  · have hn : ((la.length : Int) != (lb.length : Int)) = true := by simp; omega
    have HL := hide hl
    clear hl
    go_enter Try.func31, Try.ntmps31
    go_wp2
    go_ret
    exact ⟨ret_no (fun e => HL.out (by rw [e])), Ext.refl _⟩

set_option maxHeartbeats 1000000 in
theorem eq_ListUInt8 (la lb : List UInt8) (va vb : Value) (w : World) (ha : Sl w (Old w) va la) (hb : Sl w (Old w) vb lb) :
    Calls Try.prog 20 #[va, vb] w fun e w' => e = .returned (.bool (decide (la = lb))) ∧ Ext w w' := by
  obtain ⟨A, ca, rfl, hla, hma⟩ := ha.form
  obtain ⟨B, cb, rfl, hlb, hmb⟩ := hb.form
  unfold maxLen at hma hmb
  by_cases hl : la.length = lb.length
  · have hn : ((la.length : Int) != (lb.length : Int)) = false := by simp [hl]
    have HL := hide hl
    clear hl
    go_enter Try.func20, Try.ntmps20
    go_wp2
    go_loopw [5] (fun i wr => ∃ k : Nat, k ≤ la.length ∧ i = .int .i64 k ∧ Ext w wr ∧ la.take k = lb.take k) (fun i _ => la.length - (intOf i).toNat)
    case atStart => exact ⟨0, by omega, rfl, Ext.refl _, rfl⟩
    case round =>
      obtain ⟨k, hk, rfl, he, ht⟩ := hrel
      have HT := hide ht
      clear ht
      by_cases hlt : k < la.length
      · have hlt' : k < lb.length := by have := HL.out; omega
        obtain ⟨b, off, rfl, hbo, e0⟩ := at_UInt8 (ha.ext he) hlt
        obtain ⟨b', off', rfl, hbo', g0⟩ := at_UInt8 (hb.ext he) hlt'
        have z0 : (0 : Int) ≤ (k : Int) := by omega
        have z1 : (k : Int) < (la.length : Int) := by omega
        have z2 : (k : Int) < (lb.length : Int) := by omega
        have TS := hide (take_both la lb k hlt hlt' HT.out)
        go_wp2_with fail
        by_cases hq : la[k] = lb[k]
        · have d1 : ((la[k].toNat : Int) != (lb[k].toNat : Int)) = false := by simp [hq]
          have HQ := hide hq
          clear hq
          go_quiet (fail)
          go_wp2
          go_roundw
          case rel => exact ⟨k + 1, by omega, by go_num, he.drewN _, TS.out.1 HQ.out⟩
          case measure => simp [intOf]; omega
        · have d1 : ((la[k].toNat : Int) != (lb[k].toNat : Int)) = true := by rw [bne_iff_ne]; intro h; exact hq (UInt8.toNat_inj.1 (by omega))
          have HQ := hide hq
          clear hq
          go_quiet (fail)
          go_wp2
          go_ret
          exact ⟨ret_no (TS.out.2 HQ.out), he.drewN _⟩
      · obtain rfl : k = la.length := by omega
        go_wp2
        go_ret
        exact ⟨ret_yes (take_all la lb HL.out HT.out), he⟩
  · have hn : ((la.length : Int) != (lb.length : Int)) = true := by simp; omega
    have HL := hide hl
    clear hl
    go_enter Try.func20, Try.ntmps20
    go_wp2
    go_ret
    exact ⟨ret_no (fun e => HL.out (by rw [e])), Ext.refl _⟩

set_option maxHeartbeats 1000000 in
theorem eq_IrOp (a b : IrOp) (w : World)  :
    Calls Try.prog 132 #[.agg #[.int .i64 a.kind, .int .i64 a.x, .int .i64 a.y, .int .i64 a.k, .int .i64 a.at_], .agg #[.int .i64 b.kind, .int .i64 b.x, .int .i64 b.y, .int .i64 b.k, .int .i64 b.at_]] w fun e w' => e = .returned (.bool (decide (a = b))) ∧ Ext w w' := by
  go_enter Try.func132, Try.ntmps132
  by_cases h1 : a.kind = b.kind
  rotate_left
  · have d1 : (a.kind != b.kind) = true := by simp [h1]
    have H1 := hide h1
    clear h1
    go_wp2
    go_ret
    exact ⟨ret_no (fun e => H1.out (by rw [e])), (Ext.auto)⟩
  have d1 : (a.kind != b.kind) = false := by simp [h1]
  have H1 := hide h1
  clear h1
  by_cases h2 : a.x = b.x
  rotate_left
  · have d2 : (a.x != b.x) = true := by simp [h2]
    have H2 := hide h2
    clear h2
    go_wp2
    go_ret
    exact ⟨ret_no (fun e => H2.out (by rw [e])), (Ext.auto)⟩
  have d2 : (a.x != b.x) = false := by simp [h2]
  have H2 := hide h2
  clear h2
  by_cases h3 : a.y = b.y
  rotate_left
  · have d3 : (a.y != b.y) = true := by simp [h3]
    have H3 := hide h3
    clear h3
    go_wp2
    go_ret
    exact ⟨ret_no (fun e => H3.out (by rw [e])), (Ext.auto)⟩
  have d3 : (a.y != b.y) = false := by simp [h3]
  have H3 := hide h3
  clear h3
  by_cases h4 : a.k = b.k
  rotate_left
  · have d4 : (a.k != b.k) = true := by simp [h4]
    have H4 := hide h4
    clear h4
    go_wp2
    go_ret
    exact ⟨ret_no (fun e => H4.out (by rw [e])), (Ext.auto)⟩
  have d4 : (a.k != b.k) = false := by simp [h4]
  have H4 := hide h4
  clear h4
  by_cases h5 : a.at_ = b.at_
  rotate_left
  · have d5 : (a.at_ != b.at_) = true := by simp [h5]
    have H5 := hide h5
    clear h5
    go_wp2
    go_ret
    exact ⟨ret_no (fun e => H5.out (by rw [e])), (Ext.auto)⟩
  have d5 : (a.at_ != b.at_) = false := by simp [h5]
  have H5 := hide h5
  clear h5
  go_wp2
  go_ret
  exact ⟨ret_yes ((IrOp.eq_iff a b).2 ⟨H1.out, H2.out, H3.out, H4.out, H5.out⟩), (Ext.auto)⟩

set_option maxHeartbeats 1000000 in
theorem eq_ListIrOp (la lb : List IrOp) (va vb : Value) (w : World) (ha : Sl w (Old w) va la) (hb : Sl w (Old w) vb lb) :
    Calls Try.prog 84 #[va, vb] w fun e w' => e = .returned (.bool (decide (la = lb))) ∧ Ext w w' := by
  obtain ⟨A, ca, rfl, hla, hma⟩ := ha.form
  obtain ⟨B, cb, rfl, hlb, hmb⟩ := hb.form
  unfold maxLen at hma hmb
  by_cases hl : la.length = lb.length
  · have hn : ((la.length : Int) != (lb.length : Int)) = false := by simp [hl]
    have HL := hide hl
    clear hl
    go_enter Try.func84, Try.ntmps84
    go_wp2
    go_loopw [5] (fun i wr => ∃ k : Nat, k ≤ la.length ∧ i = .int .i64 k ∧ Ext w wr ∧ la.take k = lb.take k) (fun i _ => la.length - (intOf i).toNat)
    case atStart => exact ⟨0, by omega, rfl, Ext.refl _, rfl⟩
    case round =>
      obtain ⟨k, hk, rfl, he, ht⟩ := hrel
      have HT := hide ht
      clear ht
      by_cases hlt : k < la.length
      · have hlt' : k < lb.length := by have := HL.out; omega
        obtain ⟨b, off, rfl, hbo, hk0, e0, e1, e2, e3, e4⟩ := at_IrOp (ha.ext he) hlt
        obtain ⟨b', off', rfl, hbo', hk1, g0, g1, g2, g3, g4⟩ := at_IrOp (hb.ext he) hlt'
        have z0 : (0 : Int) ≤ (k : Int) := by omega
        have z1 : (k : Int) < (la.length : Int) := by omega
        have z2 : (k : Int) < (lb.length : Int) := by omega
        have TS := hide (take_both la lb k hlt hlt' HT.out)
        go_wp2_with fail
        go_still_tail 8, (by kernel_rfl)
        change wpList _ _ _ _ _ wr.drew
        go_wp2_with fail
        refine (eq_IrOp la[k] lb[k]  _ ).mono ?_
        rintro e w1 ⟨rfl, hx⟩
        have he1 : Ext w w1 := Ext.trans he.drew hx
        by_cases hq : la[k] = lb[k]
        · have d1 : decide (la[k] = lb[k]) = true := by simp [hq]
          have HQ := hide hq
          clear hq
          go_wp2
          go_roundw
          case rel => exact ⟨k + 1, by omega, by go_num, he1, TS.out.1 HQ.out⟩
          case measure => simp [intOf]; omega
        · have d1 : decide (la[k] = lb[k]) = false := by simp [hq]
          have HQ := hide hq
          clear hq
          go_wp2
          go_ret
          exact ⟨ret_no (TS.out.2 HQ.out), he1⟩
      · obtain rfl : k = la.length := by omega
        go_wp2
        go_ret
        exact ⟨ret_yes (take_all la lb HL.out HT.out), he⟩
  · have hn : ((la.length : Int) != (lb.length : Int)) = true := by simp; omega
    have HL := hide hl
    clear hl
    go_enter Try.func84, Try.ntmps84
    go_wp2
    go_ret
    exact ⟨ret_no (fun e => HL.out (by rw [e])), Ext.refl _⟩

set_option maxHeartbeats 1000000 in
theorem eq_IrBlock (a b : IrBlock) (v1 u1 : Value) (w : World) (hv1 : Sl w (Old w) v1 a.ops) (hu1 : Sl w (Old w) u1 b.ops):
    Calls Try.prog 21 #[.agg #[.int .i64 a.pc, .int .i64 a.len, v1, .int .i64 a.fin, .int .i64 a.x, .int .i64 a.y, .int .i64 a.k], .agg #[.int .i64 b.pc, .int .i64 b.len, u1, .int .i64 b.fin, .int .i64 b.x, .int .i64 b.y, .int .i64 b.k]] w fun e w' => e = .returned (.bool (decide (a = b))) ∧ Ext w w' := by
  obtain ⟨Av1, cv1, rfl, -, -⟩ := hv1.form
  obtain ⟨Au1, cu1, rfl, -, -⟩ := hu1.form
  go_enter Try.func21, Try.ntmps21
  by_cases h1 : a.pc = b.pc
  rotate_left
  · have d1 : (a.pc != b.pc) = true := by simp [h1]
    have H1 := hide h1
    clear h1
    go_wp2
    go_ret
    exact ⟨ret_no (fun e => H1.out (by rw [e])), (Ext.auto)⟩
  have d1 : (a.pc != b.pc) = false := by simp [h1]
  have H1 := hide h1
  clear h1
  by_cases h2 : a.len = b.len
  rotate_left
  · have d2 : (a.len != b.len) = true := by simp [h2]
    have H2 := hide h2
    clear h2
    go_wp2
    go_ret
    exact ⟨ret_no (fun e => H2.out (by rw [e])), (Ext.auto)⟩
  have d2 : (a.len != b.len) = false := by simp [h2]
  have H2 := hide h2
  clear h2
  go_wp2_with fail
  refine (eq_ListIrOp a.ops b.ops _ _ _ (hv1.ext (Ext.auto)) (hu1.ext (Ext.auto))).mono ?_
  rintro e w1 ⟨rfl, hx1⟩
  have hs1 := hx1.size
  try simp at hs1
  have he1 : Ext w w1 := Ext.trans (Ext.auto) hx1
  have hc1 := fun b o (hb : b < w.heap.size + 1 + 1) => hx1.cell (b := b) (o := o) (by first | omega | (simp; omega))
  have hg1 := fun b o (hb : b < w.heap.size + 1 + 1) => hx1.frozen (b := b) (o := o) (by first | omega | (simp; omega))
  by_cases h3 : a.ops = b.ops
  rotate_left
  · have d3 : decide (a.ops = b.ops) = false := by simp [h3]
    have H3 := hide h3
    clear h3
    go_wp2
    go_ret
    exact ⟨ret_no (fun e => H3.out (by rw [e])), (Ext.hold he1)⟩
  have d3 : decide (a.ops = b.ops) = true := by simp [h3]
  have H3 := hide h3
  clear h3
  by_cases h4 : a.fin = b.fin
  rotate_left
  · have d4 : (a.fin != b.fin) = true := by simp [h4]
    have H4 := hide h4
    clear h4
    go_wp2
    go_ret
    exact ⟨ret_no (fun e => H4.out (by rw [e])), (Ext.hold he1)⟩
  have d4 : (a.fin != b.fin) = false := by simp [h4]
  have H4 := hide h4
  clear h4
  by_cases h5 : a.x = b.x
  rotate_left
  · have d5 : (a.x != b.x) = true := by simp [h5]
    have H5 := hide h5
    clear h5
    go_wp2
    go_ret
    exact ⟨ret_no (fun e => H5.out (by rw [e])), (Ext.hold he1)⟩
  have d5 : (a.x != b.x) = false := by simp [h5]
  have H5 := hide h5
  clear h5
  by_cases h6 : a.y = b.y
  rotate_left
  · have d6 : (a.y != b.y) = true := by simp [h6]
    have H6 := hide h6
    clear h6
    go_wp2
    go_ret
    exact ⟨ret_no (fun e => H6.out (by rw [e])), (Ext.hold he1)⟩
  have d6 : (a.y != b.y) = false := by simp [h6]
  have H6 := hide h6
  clear h6
  by_cases h7 : a.k = b.k
  rotate_left
  · have d7 : (a.k != b.k) = true := by simp [h7]
    have H7 := hide h7
    clear h7
    go_wp2
    go_ret
    exact ⟨ret_no (fun e => H7.out (by rw [e])), (Ext.hold he1)⟩
  have d7 : (a.k != b.k) = false := by simp [h7]
  have H7 := hide h7
  clear h7
  go_wp2
  go_ret
  exact ⟨ret_yes ((IrBlock.eq_iff a b).2 ⟨H1.out, H2.out, H3.out, H4.out, H5.out, H6.out, H7.out⟩), (Ext.hold he1)⟩

set_option maxHeartbeats 1000000 in
theorem eq_CacEntry (a b : CacEntry) (v1 v2 u1 u2 : Value) (w : World) (hv1 : Sl w (Old w) v1 a.words) (hv2 : Sl w (Old w) v2 a.block.ops) (hu1 : Sl w (Old w) u1 b.words) (hu2 : Sl w (Old w) u2 b.block.ops):
    Calls Try.prog 56 #[.agg #[v1, .int .i64 a.block.pc, .int .i64 a.block.len, v2, .int .i64 a.block.fin, .int .i64 a.block.x, .int .i64 a.block.y, .int .i64 a.block.k], .agg #[u1, .int .i64 b.block.pc, .int .i64 b.block.len, u2, .int .i64 b.block.fin, .int .i64 b.block.x, .int .i64 b.block.y, .int .i64 b.block.k]] w fun e w' => e = .returned (.bool (decide (a = b))) ∧ Ext w w' := by
  obtain ⟨Av1, cv1, rfl, -, -⟩ := hv1.form
  obtain ⟨Av2, cv2, rfl, -, -⟩ := hv2.form
  obtain ⟨Au1, cu1, rfl, -, -⟩ := hu1.form
  obtain ⟨Au2, cu2, rfl, -, -⟩ := hu2.form
  go_enter Try.func56, Try.ntmps56
  go_wp2_with fail
  refine (eq_ListInt a.words b.words _ _ _ (hv1.ext (Ext.auto)) (hu1.ext (Ext.auto))).mono ?_
  rintro e w1 ⟨rfl, hx1⟩
  have hs1 := hx1.size
  try simp at hs1
  have he1 : Ext w w1 := Ext.trans (Ext.auto) hx1
  have hc1 := fun b o (hb : b < w.heap.size + 1 + 1) => hx1.cell (b := b) (o := o) (by first | omega | (simp; omega))
  have hg1 := fun b o (hb : b < w.heap.size + 1 + 1) => hx1.frozen (b := b) (o := o) (by first | omega | (simp; omega))
  by_cases h1 : a.words = b.words
  rotate_left
  · have d1 : decide (a.words = b.words) = false := by simp [h1]
    have H1 := hide h1
    clear h1
    go_wp2
    go_ret
    exact ⟨ret_no (fun e => H1.out (by rw [e])), (Ext.hold he1)⟩
  have d1 : decide (a.words = b.words) = true := by simp [h1]
  have H1 := hide h1
  clear h1
  go_wp2_with fail
  refine (eq_IrBlock a.block b.block _ _ _ (hv2.ext (Ext.hold he1)) (hu2.ext (Ext.hold he1))).mono ?_
  rintro e w2 ⟨rfl, hx2⟩
  have hs2 := hx2.size
  try simp at hs2
  have he2 : Ext w w2 := Ext.trans (Ext.hold he1) hx2
  have hc2 := fun b o (hb : b < w.heap.size + 1 + 1) => hx2.cell (b := b) (o := o) (by first | omega | (simp; omega))
  have hg2 := fun b o (hb : b < w.heap.size + 1 + 1) => hx2.frozen (b := b) (o := o) (by first | omega | (simp; omega))
  by_cases h2 : a.block = b.block
  rotate_left
  · have d2 : decide (a.block = b.block) = false := by simp [h2]
    have H2 := hide h2
    clear h2
    go_wp2
    go_ret
    exact ⟨ret_no (fun e => H2.out (by rw [e])), (Ext.hold2 he2 he1)⟩
  have d2 : decide (a.block = b.block) = true := by simp [h2]
  have H2 := hide h2
  clear h2
  go_wp2
  go_ret
  exact ⟨ret_yes ((CacEntry.eq_iff a b).2 ⟨H1.out, H2.out⟩), (Ext.hold2 he2 he1)⟩

set_option maxHeartbeats 1000000 in
theorem eq_ListCacEntry (la lb : List CacEntry) (va vb : Value) (w : World) (ha : Sl w (Old w) va la) (hb : Sl w (Old w) vb lb) :
    Calls Try.prog 55 #[va, vb] w fun e w' => e = .returned (.bool (decide (la = lb))) ∧ Ext w w' := by
  obtain ⟨A, ca, rfl, hla, hma⟩ := ha.form
  obtain ⟨B, cb, rfl, hlb, hmb⟩ := hb.form
  unfold maxLen at hma hmb
  by_cases hl : la.length = lb.length
  · have hn : ((la.length : Int) != (lb.length : Int)) = false := by simp [hl]
    have HL := hide hl
    clear hl
    go_enter Try.func55, Try.ntmps55
    go_wp2
    go_loopw [5] (fun i wr => ∃ k : Nat, k ≤ la.length ∧ i = .int .i64 k ∧ Ext w wr ∧ la.take k = lb.take k) (fun i _ => la.length - (intOf i).toNat)
    case atStart => exact ⟨0, by omega, rfl, Ext.refl _, rfl⟩
    case round =>
      obtain ⟨k, hk, rfl, he, ht⟩ := hrel
      have HT := hide ht
      clear ht
      by_cases hlt : k < la.length
      · have hlt' : k < lb.length := by have := HL.out; omega
        obtain ⟨b, off, v1, v2, rfl, hbo, hk0, hv1, hv2, e0, e1, e2, e3, e4, e5, e6, e7⟩ := at_CacEntry (ha.ext he) hlt
        obtain ⟨b', off', u1, u2, rfl, hbo', hk1, hu1, hu2, g0, g1, g2, g3, g4, g5, g6, g7⟩ := at_CacEntry (hb.ext he) hlt'
        have z0 : (0 : Int) ≤ (k : Int) := by omega
        have z1 : (k : Int) < (la.length : Int) := by omega
        have z2 : (k : Int) < (lb.length : Int) := by omega
        have TS := hide (take_both la lb k hlt hlt' HT.out)
        go_wp2_with fail
        go_still_tail 8, (by kernel_rfl)
        change wpList _ _ _ _ _ wr.drew
        go_wp2_with fail
        refine (eq_CacEntry la[k] lb[k] _ _ _ _ _ (hv1.ext (Ext.refl _).drew) (hv2.ext (Ext.refl _).drew) (hu1.ext (Ext.refl _).drew) (hu2.ext (Ext.refl _).drew)).mono ?_
        rintro e w1 ⟨rfl, hx⟩
        have he1 : Ext w w1 := Ext.trans he.drew hx
        by_cases hq : la[k] = lb[k]
        · have d1 : decide (la[k] = lb[k]) = true := by simp [hq]
          have HQ := hide hq
          clear hq
          go_wp2
          go_roundw
          case rel => exact ⟨k + 1, by omega, by go_num, he1, TS.out.1 HQ.out⟩
          case measure => simp [intOf]; omega
        · have d1 : decide (la[k] = lb[k]) = false := by simp [hq]
          have HQ := hide hq
          clear hq
          go_wp2
          go_ret
          exact ⟨ret_no (TS.out.2 HQ.out), he1⟩
      · obtain rfl : k = la.length := by omega
        go_wp2
        go_ret
        exact ⟨ret_yes (take_all la lb HL.out HT.out), he⟩
  · have hn : ((la.length : Int) != (lb.length : Int)) = true := by simp; omega
    have HL := hide hl
    clear hl
    go_enter Try.func55, Try.ntmps55
    go_wp2
    go_ret
    exact ⟨ret_no (fun e => HL.out (by rw [e])), Ext.refl _⟩

set_option maxHeartbeats 1000000 in
theorem eq_CerPair (a b : CerPair) (v1 v2 u1 u2 : Value) (w : World) (hv1 : Sl w (Old w) v1 a.base.ops) (hv2 : Sl w (Old w) v2 a.made.ops) (hu1 : Sl w (Old w) u1 b.base.ops) (hu2 : Sl w (Old w) u2 b.made.ops):
    Calls Try.prog 41 #[.agg #[.int .i64 a.base.pc, .int .i64 a.base.len, v1, .int .i64 a.base.fin, .int .i64 a.base.x, .int .i64 a.base.y, .int .i64 a.base.k, .int .i64 a.made.pc, .int .i64 a.made.len, v2, .int .i64 a.made.fin, .int .i64 a.made.x, .int .i64 a.made.y, .int .i64 a.made.k], .agg #[.int .i64 b.base.pc, .int .i64 b.base.len, u1, .int .i64 b.base.fin, .int .i64 b.base.x, .int .i64 b.base.y, .int .i64 b.base.k, .int .i64 b.made.pc, .int .i64 b.made.len, u2, .int .i64 b.made.fin, .int .i64 b.made.x, .int .i64 b.made.y, .int .i64 b.made.k]] w fun e w' => e = .returned (.bool (decide (a = b))) ∧ Ext w w' := by
  obtain ⟨Av1, cv1, rfl, -, -⟩ := hv1.form
  obtain ⟨Av2, cv2, rfl, -, -⟩ := hv2.form
  obtain ⟨Au1, cu1, rfl, -, -⟩ := hu1.form
  obtain ⟨Au2, cu2, rfl, -, -⟩ := hu2.form
  go_enter Try.func41, Try.ntmps41
  go_wp2_with fail
  refine (eq_IrBlock a.base b.base _ _ _ (hv1.ext (Ext.auto)) (hu1.ext (Ext.auto))).mono ?_
  rintro e w1 ⟨rfl, hx1⟩
  have hs1 := hx1.size
  try simp at hs1
  have he1 : Ext w w1 := Ext.trans (Ext.auto) hx1
  have hc1 := fun b o (hb : b < w.heap.size + 1 + 1) => hx1.cell (b := b) (o := o) (by first | omega | (simp; omega))
  have hg1 := fun b o (hb : b < w.heap.size + 1 + 1) => hx1.frozen (b := b) (o := o) (by first | omega | (simp; omega))
  by_cases h1 : a.base = b.base
  rotate_left
  · have d1 : decide (a.base = b.base) = false := by simp [h1]
    have H1 := hide h1
    clear h1
    go_wp2
    go_ret
    exact ⟨ret_no (fun e => H1.out (by rw [e])), (Ext.hold he1)⟩
  have d1 : decide (a.base = b.base) = true := by simp [h1]
  have H1 := hide h1
  clear h1
  go_wp2_with fail
  refine (eq_IrBlock a.made b.made _ _ _ (hv2.ext (Ext.hold he1)) (hu2.ext (Ext.hold he1))).mono ?_
  rintro e w2 ⟨rfl, hx2⟩
  have hs2 := hx2.size
  try simp at hs2
  have he2 : Ext w w2 := Ext.trans (Ext.hold he1) hx2
  have hc2 := fun b o (hb : b < w.heap.size + 1 + 1) => hx2.cell (b := b) (o := o) (by first | omega | (simp; omega))
  have hg2 := fun b o (hb : b < w.heap.size + 1 + 1) => hx2.frozen (b := b) (o := o) (by first | omega | (simp; omega))
  by_cases h2 : a.made = b.made
  rotate_left
  · have d2 : decide (a.made = b.made) = false := by simp [h2]
    have H2 := hide h2
    clear h2
    go_wp2
    go_ret
    exact ⟨ret_no (fun e => H2.out (by rw [e])), (Ext.hold2 he2 he1)⟩
  have d2 : decide (a.made = b.made) = true := by simp [h2]
  have H2 := hide h2
  clear h2
  go_wp2
  go_ret
  exact ⟨ret_yes ((CerPair.eq_iff a b).2 ⟨H1.out, H2.out⟩), (Ext.hold2 he2 he1)⟩

set_option maxHeartbeats 1000000 in
theorem eq_ListCerPair (la lb : List CerPair) (va vb : Value) (w : World) (ha : Sl w (Old w) va la) (hb : Sl w (Old w) vb lb) :
    Calls Try.prog 40 #[va, vb] w fun e w' => e = .returned (.bool (decide (la = lb))) ∧ Ext w w' := by
  obtain ⟨A, ca, rfl, hla, hma⟩ := ha.form
  obtain ⟨B, cb, rfl, hlb, hmb⟩ := hb.form
  unfold maxLen at hma hmb
  by_cases hl : la.length = lb.length
  · have hn : ((la.length : Int) != (lb.length : Int)) = false := by simp [hl]
    have HL := hide hl
    clear hl
    go_enter Try.func40, Try.ntmps40
    go_wp2
    go_loopw [5] (fun i wr => ∃ k : Nat, k ≤ la.length ∧ i = .int .i64 k ∧ Ext w wr ∧ la.take k = lb.take k) (fun i _ => la.length - (intOf i).toNat)
    case atStart => exact ⟨0, by omega, rfl, Ext.refl _, rfl⟩
    case round =>
      obtain ⟨k, hk, rfl, he, ht⟩ := hrel
      have HT := hide ht
      clear ht
      by_cases hlt : k < la.length
      · have hlt' : k < lb.length := by have := HL.out; omega
        obtain ⟨b, off, v1, v2, rfl, hbo, hk0, hv1, hv2, e0, e1, e2, e3, e4, e5, e6, e7, e8, e9, e10, e11, e12, e13⟩ := at_CerPair (ha.ext he) hlt
        obtain ⟨b', off', u1, u2, rfl, hbo', hk1, hu1, hu2, g0, g1, g2, g3, g4, g5, g6, g7, g8, g9, g10, g11, g12, g13⟩ := at_CerPair (hb.ext he) hlt'
        have z0 : (0 : Int) ≤ (k : Int) := by omega
        have z1 : (k : Int) < (la.length : Int) := by omega
        have z2 : (k : Int) < (lb.length : Int) := by omega
        have TS := hide (take_both la lb k hlt hlt' HT.out)
        go_wp2_with fail
        go_still_tail 8, (by kernel_rfl)
        change wpList _ _ _ _ _ wr.drew
        go_wp2_with fail
        refine (eq_CerPair la[k] lb[k] _ _ _ _ _ (hv1.ext (Ext.refl _).drew) (hv2.ext (Ext.refl _).drew) (hu1.ext (Ext.refl _).drew) (hu2.ext (Ext.refl _).drew)).mono ?_
        rintro e w1 ⟨rfl, hx⟩
        have he1 : Ext w w1 := Ext.trans he.drew hx
        by_cases hq : la[k] = lb[k]
        · have d1 : decide (la[k] = lb[k]) = true := by simp [hq]
          have HQ := hide hq
          clear hq
          go_wp2
          go_roundw
          case rel => exact ⟨k + 1, by omega, by go_num, he1, TS.out.1 HQ.out⟩
          case measure => simp [intOf]; omega
        · have d1 : decide (la[k] = lb[k]) = false := by simp [hq]
          have HQ := hide hq
          clear hq
          go_wp2
          go_ret
          exact ⟨ret_no (TS.out.2 HQ.out), he1⟩
      · obtain rfl : k = la.length := by omega
        go_wp2
        go_ret
        exact ⟨ret_yes (take_all la lb HL.out HT.out), he⟩
  · have hn : ((la.length : Int) != (lb.length : Int)) = true := by simp; omega
    have HL := hide hl
    clear hl
    go_enter Try.func40, Try.ntmps40
    go_wp2
    go_ret
    exact ⟨ret_no (fun e => HL.out (by rw [e])), Ext.refl _⟩

end Go.Proofs.Ytjemadbhpbbhlaa
