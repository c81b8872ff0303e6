/-
  The laws count what their arguments hold (sz..).
-/
import Derived.Test.YteaacelfnkiboaaRows
import Derived.Test.YteaacelfnkiboaaTy
namespace Go.Proofs.Yteaacelfnkiboaa
open Go.RowKit

set_option linter.unusedVariables false
set_option linter.unusedSimpArgs false
set_option maxRecDepth 100000

set_option maxHeartbeats 1000000 in
theorem sz_ListInt (l : List Int) (v : Value) (left : Int) (w : World) (h : Sl w (Old w) v l) (h0 : 0 ≤ left) (h9 : left ≤ 1048576) :
    Calls Try.prog 53 #[v, .int .i64 left] w fun e w' => ∃ r : Int, e = .returned (.int .i64 r) ∧ SzR (Bulk.blk l) left r ∧ Ext w w' := by
  obtain ⟨A, c, rfl, hl, hm⟩ := h.form
  unfold maxLen at hm
  have HB := hide (blk_flat l (fun _ => rfl))
  by_cases hlt : (l.length : Int) ≤ left
  · go_enter Try.func53, Try.ntmps53
    go_wp2
    go_ret
    exact ⟨_, rfl, .inl ⟨by have := HB.out; omega, by have := HB.out; omega⟩, Ext.refl _⟩
  · go_enter Try.func53, Try.ntmps53
    go_wp2
    go_ret
    exact ⟨_, rfl, .inr ⟨rfl, by have := HB.out; omega⟩, Ext.refl _⟩

set_option maxHeartbeats 1000000 in
theorem sz_ListIrOp (l : List IrOp) (v : Value) (left : Int) (w : World) (h : Sl w (Old w) v l) (h0 : 0 ≤ left) (h9 : left ≤ 1048576) :
    Calls Try.prog 52 #[v, .int .i64 left] w fun e w' => ∃ r : Int, e = .returned (.int .i64 r) ∧ SzR (Bulk.blk l) left r ∧ Ext w w' := by
  obtain ⟨A, c, rfl, hl, hm⟩ := h.form
  unfold maxLen at hm
  have HB := hide (blk_flat l (fun _ => rfl))
  by_cases hlt : (l.length : Int) ≤ left
  · go_enter Try.func52, Try.ntmps52
    go_wp2
    go_ret
    exact ⟨_, rfl, .inl ⟨by have := HB.out; omega, by have := HB.out; omega⟩, Ext.refl _⟩
  · go_enter Try.func52, Try.ntmps52
    go_wp2
    go_ret
    exact ⟨_, rfl, .inr ⟨rfl, by have := HB.out; omega⟩, Ext.refl _⟩

set_option maxHeartbeats 1000000 in
theorem sz_IrBlock (o : IrBlock) (v1 : Value) (left : Int) (w : World) (hv1 : Sl w (Old w) v1 o.ops) (h0 : 0 ≤ left) (h9 : left ≤ 1048576) :
    Calls Try.prog 21 #[.agg #[.int .i64 o.pc, .int .i64 o.len, v1, .int .i64 o.fin, .int .i64 o.x, .int .i64 o.y, .int .i64 o.k], .int .i64 left] w fun e w' => ∃ r : Int, e = .returned (.int .i64 r) ∧ SzR (Bulk.blk o) left r ∧ Ext w w' := by
  obtain ⟨Av1, cv1, rfl, -, -⟩ := hv1.form
  have hbo : Bulk.blk o = Bulk.blk o.ops := rfl
  have HB := hide hbo
  clear hbo
  go_enter Try.func21, Try.ntmps21
  go_wp2_with fail
  refine (sz_ListIrOp o.ops _ _ _ (hv1.ext (Ext.auto)) (by omega) (by omega)).mono ?_
  rintro e w1 ⟨r1, rfl, hr1, hx1⟩
  have hs1 := hx1.size
  try simp at hs1
  have he1 : Ext w w1 := Ext.trans (Ext.auto) hx1
  have hc1 := fun b o (hb : b < w.heap.size + 1) => hx1.cell (b := b) (o := o) (by first | omega | (simp; omega))
  have hg1 := fun b o (hb : b < w.heap.size + 1) => hx1.frozen (b := b) (o := o) (by first | omega | (simp; omega))
  rcases hr1 with ⟨hq1, hl1⟩ | ⟨hq1, hl1⟩
  rotate_left
  · obtain ⟨HQ, hlt⟩ : Hid (r1 = -1) ∧ r1 < 0 := ⟨hq1, by omega⟩
    clear hq1
    go_wp2
    go_ret
    exact ⟨-1, rfl, .inr ⟨rfl, by have := HB.out; omega⟩, (Ext.hold he1)⟩
  have hl1z : 0 ≤ r1 := by omega
  have hl1m : r1 ≤ 1048576 := by omega
  have hl1q : r1 ≤ left - (Bulk.blk o.ops : Nat) := by omega
  have hl1p : left - (Bulk.blk o.ops : Nat) ≤ r1 := by omega
  clear hq1
  go_wp2
  go_ret
  exact ⟨_, rfl, .inl ⟨by have := HB.out; omega, by have := HB.out; omega⟩, (Ext.hold he1)⟩

set_option maxHeartbeats 1000000 in
theorem sz_MchMach (o : MchMach) (v1 v2 v3 v4 : Value) (left : Int) (w : World) (hv1 : Sl w (Old w) v1 o.regs) (hv2 : Sl w (Old w) v2 o.mem) (hv3 : Sl w (Old w) v3 o.ins) (hv4 : Sl w (Old w) v4 o.outs) (h0 : 0 ≤ left) (h9 : left ≤ 1048576) :
    Calls Try.prog 22 #[.agg #[v1, .int .i64 o.pc, v2, .int .i64 o.save, .bool o.lets, .bool o.waits, .int .i64 o.halt, v3, v4, .int .i64 o.count], .int .i64 left] w fun e w' => ∃ r : Int, e = .returned (.int .i64 r) ∧ SzR (Bulk.blk o) left r ∧ Ext w w' := by
  obtain ⟨Av1, cv1, rfl, -, -⟩ := hv1.form
  obtain ⟨Av2, cv2, rfl, -, -⟩ := hv2.form
  obtain ⟨Av3, cv3, rfl, -, -⟩ := hv3.form
  obtain ⟨Av4, cv4, rfl, -, -⟩ := hv4.form
  have hbo : Bulk.blk o = Bulk.blk o.regs + Bulk.blk o.mem + Bulk.blk o.ins + Bulk.blk o.outs := rfl
  have HB := hide hbo
  clear hbo
  go_enter Try.func22, Try.ntmps22
  go_wp2_with fail
  refine (sz_ListInt o.regs _ _ _ (hv1.ext (Ext.auto)) (by omega) (by omega)).mono ?_
  rintro e w1 ⟨r1, rfl, hr1, hx1⟩
  have hs1 := hx1.size
  try simp at hs1
  have he1 : Ext w w1 := Ext.trans (Ext.auto) hx1
  have hc1 := fun b o (hb : b < w.heap.size + 1) => hx1.cell (b := b) (o := o) (by first | omega | (simp; omega))
  have hg1 := fun b o (hb : b < w.heap.size + 1) => hx1.frozen (b := b) (o := o) (by first | omega | (simp; omega))
  rcases hr1 with ⟨hq1, hl1⟩ | ⟨hq1, hl1⟩
  rotate_left
  · obtain ⟨HQ, hlt⟩ : Hid (r1 = -1) ∧ r1 < 0 := ⟨hq1, by omega⟩
    clear hq1
    go_wp2
    go_ret
    exact ⟨-1, rfl, .inr ⟨rfl, by have := HB.out; omega⟩, (Ext.hold he1)⟩
  have hl1z : 0 ≤ r1 := by omega
  have hl1m : r1 ≤ 1048576 := by omega
  have hl1q : r1 ≤ left - (Bulk.blk o.regs : Nat) := by omega
  have hl1p : left - (Bulk.blk o.regs : Nat) ≤ r1 := by omega
  clear hq1
  go_wp2_with fail
  refine (sz_ListInt o.mem _ _ _ (hv2.ext (Ext.hold he1)) (by omega) (by omega)).mono ?_
  rintro e w2 ⟨r2, rfl, hr2, hx2⟩
  have hs2 := hx2.size
  try simp at hs2
  have he2 : Ext w w2 := Ext.trans (Ext.hold he1) hx2
  have hc2 := fun b o (hb : b < w.heap.size + 1) => hx2.cell (b := b) (o := o) (by first | omega | (simp; omega))
  have hg2 := fun b o (hb : b < w.heap.size + 1) => hx2.frozen (b := b) (o := o) (by first | omega | (simp; omega))
  rcases hr2 with ⟨hq2, hl2⟩ | ⟨hq2, hl2⟩
  rotate_left
  · obtain ⟨HQ, hlt⟩ : Hid (r2 = -1) ∧ r2 < 0 := ⟨hq2, by omega⟩
    clear hq2
    go_wp2
    go_ret
    exact ⟨-1, rfl, .inr ⟨rfl, by have := HB.out; omega⟩, (Ext.hold2 he2 he1)⟩
  have hl2z : 0 ≤ r2 := by omega
  have hl2m : r2 ≤ 1048576 := by omega
  have hl2q : r2 ≤ r1 - (Bulk.blk o.mem : Nat) := by omega
  have hl2p : r1 - (Bulk.blk o.mem : Nat) ≤ r2 := by omega
  clear hq2
  go_wp2_with fail
  refine (sz_ListInt o.ins _ _ _ (hv3.ext (Ext.hold2 he2 he1)) (by omega) (by omega)).mono ?_
  rintro e w3 ⟨r3, rfl, hr3, hx3⟩
  have hs3 := hx3.size
  try simp at hs3
  have he3 : Ext w w3 := Ext.trans (Ext.hold2 he2 he1) hx3
  have hc3 := fun b o (hb : b < w.heap.size + 1) => hx3.cell (b := b) (o := o) (by first | omega | (simp; omega))
  have hg3 := fun b o (hb : b < w.heap.size + 1) => hx3.frozen (b := b) (o := o) (by first | omega | (simp; omega))
  rcases hr3 with ⟨hq3, hl3⟩ | ⟨hq3, hl3⟩
  rotate_left
  · obtain ⟨HQ, hlt⟩ : Hid (r3 = -1) ∧ r3 < 0 := ⟨hq3, by omega⟩
    clear hq3
    go_wp2
    go_ret
    exact ⟨-1, rfl, .inr ⟨rfl, by have := HB.out; omega⟩, (by (repeat' (first | (with_reducible exact Ext.refl _) | (with_reducible exact he3) | (with_reducible exact he2) | (with_reducible exact he1) | (with_reducible apply Ext.alloc) | (with_reducible apply Ext.drew) | (with_reducible refine Ext.setCell ?_ ?_ _))); all_goals (first | (simp; done) | (simp; omega) | omega))⟩
  have hl3z : 0 ≤ r3 := by omega
  have hl3m : r3 ≤ 1048576 := by omega
  have hl3q : r3 ≤ r2 - (Bulk.blk o.ins : Nat) := by omega
  have hl3p : r2 - (Bulk.blk o.ins : Nat) ≤ r3 := by omega
  clear hq3
  go_wp2_with fail
  refine (sz_ListInt o.outs _ _ _ (hv4.ext (by (repeat' (first | (with_reducible exact Ext.refl _) | (with_reducible exact he3) | (with_reducible exact he2) | (with_reducible exact he1) | (with_reducible apply Ext.alloc) | (with_reducible apply Ext.drew) | (with_reducible refine Ext.setCell ?_ ?_ _))); all_goals (first | (simp; done) | (simp; omega) | omega))) (by omega) (by omega)).mono ?_
  rintro e w4 ⟨r4, rfl, hr4, hx4⟩
  have hs4 := hx4.size
  try simp at hs4
  have he4 : Ext w w4 := Ext.trans (by (repeat' (first | (with_reducible exact Ext.refl _) | (with_reducible exact he3) | (with_reducible exact he2) | (with_reducible exact he1) | (with_reducible apply Ext.alloc) | (with_reducible apply Ext.drew) | (with_reducible refine Ext.setCell ?_ ?_ _))); all_goals (first | (simp; done) | (simp; omega) | omega)) hx4
  have hc4 := fun b o (hb : b < w.heap.size + 1) => hx4.cell (b := b) (o := o) (by first | omega | (simp; omega))
  have hg4 := fun b o (hb : b < w.heap.size + 1) => hx4.frozen (b := b) (o := o) (by first | omega | (simp; omega))
  rcases hr4 with ⟨hq4, hl4⟩ | ⟨hq4, hl4⟩
  rotate_left
  · obtain ⟨HQ, hlt⟩ : Hid (r4 = -1) ∧ r4 < 0 := ⟨hq4, by omega⟩
    clear hq4
    go_wp2
    go_ret
    exact ⟨-1, rfl, .inr ⟨rfl, by have := HB.out; omega⟩, (by (repeat' (first | (with_reducible exact Ext.refl _) | (with_reducible exact he4) | (with_reducible exact he3) | (with_reducible exact he2) | (with_reducible exact he1) | (with_reducible apply Ext.alloc) | (with_reducible apply Ext.drew) | (with_reducible refine Ext.setCell ?_ ?_ _))); all_goals (first | (simp; done) | (simp; omega) | omega))⟩
  have hl4z : 0 ≤ r4 := by omega
  have hl4m : r4 ≤ 1048576 := by omega
  have hl4q : r4 ≤ r3 - (Bulk.blk o.outs : Nat) := by omega
  have hl4p : r3 - (Bulk.blk o.outs : Nat) ≤ r4 := by omega
  clear hq4
  go_wp2
  go_ret
  exact ⟨_, rfl, .inl ⟨by have := HB.out; omega, by have := HB.out; omega⟩, (by (repeat' (first | (with_reducible exact Ext.refl _) | (with_reducible exact he4) | (with_reducible exact he3) | (with_reducible exact he2) | (with_reducible exact he1) | (with_reducible apply Ext.alloc) | (with_reducible apply Ext.drew) | (with_reducible refine Ext.setCell ?_ ?_ _))); all_goals (first | (simp; done) | (simp; omega) | omega))⟩

end Go.Proofs.Yteaacelfnkiboaa
