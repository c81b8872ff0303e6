/-
  The laws copy their arguments into fresh memory (to..): what comes back reads as what came in.
-/
import Derived.Test.YteaacelfnkiboaaRows
import Derived.Test.YteaacelfnkiboaaTy
namespace Go.Proofs.Yteaacelfnkiboaa
open Go.RowKit

set_option linter.unusedVariables false
set_option linter.unusedSimpArgs false
set_option maxRecDepth 100000

theorem infInt : (Try.prog.info? 3).map (fun i => (i.zero, i.size, i.bytes)) = some (some (.int .i64 0), 1, 8) := by kernel_rfl
set_option maxHeartbeats 1000000 in
theorem to_ListInt (l : List Int) (v : Value) (w : World) (h : Sl w (Old w) v l) (hn : Bulk.blk l ≤ 1048576) :
    Calls Try.prog 61 #[v] w fun e w' => ∃ r F, e = .returned r ∧ OwnSl w' r l F ∧ Fr w w' F ∧ Ext w w' := by
  obtain ⟨A, c, rfl, hl, hm⟩ := h.form
  unfold maxLen at hm
  have hb := blk_len l
  obtain ⟨i0, hi, hz0, hz1, hz2⟩ := info_parts infInt
  have hmk : ∀ w : World, (Instr.makeSlice 41 (.int .i64 (l.length : Int)) (.int .i64 (l.length : Int))).run Try.prog w = .ok (.slice (some ⟨w.heap.size, 0, none⟩) l.length l.length) (w.alloc (.cells (madeCells _ (l.length * i0.size)) 3)) :=
    fun w => run_make_rowN 41 3 i0 _ Try.underlying41 hi hz0 _ _ l.length l.length (Nat.le_refl _) (by rw [hz2]; omega) (by omega) w
  have HZ := hide hz1
  clear hi hz0 hz1 hz2
  go_enter Try.func61, Try.ntmps61
  go_wp2
  go_loopw [4] (fun i wr => ∃ (k : Nat) (Fs : List (List Nat)), k ≤ l.length ∧ i = .int .i64 k ∧ Row w wr w.heap.size l.length k l Fs) (fun i _ => l.length - (intOf i).toNat)
  case atStart => exact ⟨0, [], by omega, rfl, Row.start _ _ _ _ _ (by rw [size_madeCells, HZ.out]; rfl)⟩
  case round =>
    obtain ⟨k, Fs, hk, rfl, hr⟩ := hrel
    by_cases hlt : k < l.length
    · obtain ⟨b, off, rfl, hbo, hk0, e0⟩ := at_Int (h.ext hr.ext) hlt
      have z0 : (0 : Int) ≤ (k : Int) := by omega
      have z1 : (k : Int) < (l.length : Int) := by omega
      have hx : Ext wr wr := Ext.refl _
      have hown : Own.own wr [.int .i64 (l[k])] l[k] [] := ⟨⟨rfl, hk0⟩, rfl⟩
      have hfr : Fr wr wr [] := Fr.nil _ _
      have hr1 := hr.call hx
      obtain ⟨s0, g0⟩ := hr1.there (k) (by show _ < l.length * 1; omega)
      have hf := hr1.fz
      go_wp2
      go_roundw
      case rel => exact ⟨k + 1, _, by omega, by go_num, hr.put hx (List.getElem?_eq_getElem hlt) hown hfr (by have := Put.one (v := .int .i64 (l[k])) g0; simpa [Rep.sz] using this)⟩
      case measure => simp [intOf]; omega
    · obtain rfl : k = l.length := by omega
      go_wp2
      go_ret
      obtain ⟨F, ho, hf⟩ := hr.done (by unfold maxLen; omega)
      exact ⟨_, F, rfl, ho, hf, hr.ext⟩

set_option maxHeartbeats 1000000 in
theorem to_IrOp (o : IrOp) (w : World) :
    Calls Try.prog 91 #[.agg #[.int .i64 o.kind, .int .i64 o.x, .int .i64 o.y, .int .i64 o.k, .int .i64 o.at_]] w fun e w' => e = .returned (.agg #[.int .i64 o.kind, .int .i64 o.x, .int .i64 o.y, .int .i64 o.k, .int .i64 o.at_]) ∧ Ext w w' := by
  go_enter Try.func91, Try.ntmps91
  go_wp2
  refine bodyPost_ret (v := .agg #[.int .i64 o.kind, .int .i64 o.x, .int .i64 o.y, .int .i64 o.k, .int .i64 o.at_]) (by simp [results, Try.results91, go_sem]) rfl ⟨rfl, ?_⟩
  repeat (first | exact Ext.refl _ | apply Ext.alloc)

theorem infIrOp : (Try.prog.info? 58).map (fun i => (i.zero, i.size, i.bytes)) = some (some (.agg #[.int .i64 0, .int .i64 0, .int .i64 0, .int .i64 0, .int .i64 0]), 5, 40) := by kernel_rfl
set_option maxHeartbeats 1000000 in
theorem to_ListIrOp (l : List IrOp) (v : Value) (w : World) (h : Sl w (Old w) v l) (hn : Bulk.blk l ≤ 1048576) :
    Calls Try.prog 60 #[v] w fun e w' => ∃ r F, e = .returned r ∧ OwnSl w' r l F ∧ Fr w w' F ∧ Ext w w' := by
  obtain ⟨A, c, rfl, hl, hm⟩ := h.form
  unfold maxLen at hm
  have hb := blk_len l
  obtain ⟨i0, hi, hz0, hz1, hz2⟩ := info_parts infIrOp
  have hmk : ∀ w : World, (Instr.makeSlice 23 (.int .i64 (l.length : Int)) (.int .i64 (l.length : Int))).run Try.prog w = .ok (.slice (some ⟨w.heap.size, 0, none⟩) l.length l.length) (w.alloc (.cells (madeCells _ (l.length * i0.size)) 58)) :=
    fun w => run_make_rowN 23 58 i0 _ Try.underlying23 hi hz0 _ _ l.length l.length (Nat.le_refl _) (by rw [hz2]; omega) (by omega) w
  have HZ := hide hz1
  clear hi hz0 hz1 hz2
  go_enter Try.func60, Try.ntmps60
  go_wp2
  go_loopw [4] (fun i wr => ∃ (k : Nat) (Fs : List (List Nat)), k ≤ l.length ∧ i = .int .i64 k ∧ Row w wr w.heap.size l.length k l Fs) (fun i _ => l.length - (intOf i).toNat)
  case atStart => exact ⟨0, [], by omega, rfl, Row.start _ _ _ _ _ (by rw [size_madeCells, HZ.out]; rfl)⟩
  case round =>
    obtain ⟨k, Fs, hk, rfl, hr⟩ := hrel
    by_cases hlt : k < l.length
    · obtain ⟨b, off, rfl, hbo, hk0, e0, e1, e2, e3, e4⟩ := at_IrOp (h.ext hr.ext) hlt
      have z0 : (0 : Int) ≤ (k : Int) := by omega
      have z1 : (k : Int) < (l.length : Int) := by omega
      go_wp2_with fail
      refine (to_IrOp l[k] _).mono ?_
      rintro e w1 ⟨rfl, hx⟩
      have hown : Own.own w1 [.int .i64 (l[k].kind), .int .i64 (l[k].x), .int .i64 (l[k].y), .int .i64 (l[k].k), .int .i64 (l[k].at_)] l[k] [] := ⟨rfl, hk0, rfl⟩
      have hfr : Fr wr w1 [] := Fr.nil _ _
      have hr1 := hr.call hx
      obtain ⟨s0, g0⟩ := hr1.there (k * 5) (by show _ < l.length * 5; omega)
      obtain ⟨s1, g1⟩ := hr1.there (k * 5 + 1) (by show _ < l.length * 5; omega)
      obtain ⟨s2, g2⟩ := hr1.there (k * 5 + 2) (by show _ < l.length * 5; omega)
      obtain ⟨s3, g3⟩ := hr1.there (k * 5 + 3) (by show _ < l.length * 5; omega)
      obtain ⟨s4, g4⟩ := hr1.there (k * 5 + 4) (by show _ < l.length * 5; omega)
      have hf := hr1.fz
      go_wp2
      go_roundw
      case rel => exact ⟨k + 1, _, by omega, by go_num, hr.put hx (List.getElem?_eq_getElem hlt) hown hfr (Put.all _ fun j hj => hr1.there _ (by show _ < l.length * 5; have : j < 5 := hj; show k * 5 + j < _; omega))⟩
      case measure => simp [intOf]; omega
    · obtain rfl : k = l.length := by omega
      go_wp2
      go_ret
      obtain ⟨F, ho, hf⟩ := hr.done (by unfold maxLen; omega)
      exact ⟨_, F, rfl, ho, hf, hr.ext⟩

set_option maxHeartbeats 1000000 in
theorem to_IrBlock (o : IrBlock) (v1 : Value) (w : World) (hv1 : Sl w (Old w) v1 o.ops) (hn : Bulk.blk o ≤ 1048576) :
    Calls Try.prog 24 #[.agg #[.int .i64 o.pc, .int .i64 o.len, v1, .int .i64 o.fin, .int .i64 o.x, .int .i64 o.y, .int .i64 o.k]] w fun e w' => ∃ (r1 : Value) (F1 : List Nat), e = .returned (.agg #[.int .i64 o.pc, .int .i64 o.len, r1, .int .i64 o.fin, .int .i64 o.x, .int .i64 o.y, .int .i64 o.k]) ∧ OwnSl w' r1 o.ops F1 ∧ Fr w w' (F1) ∧ Ext w w' := by
  obtain ⟨Av1, cv1, rfl, -, -⟩ := hv1.form
  have hn1 : Bulk.blk o.ops ≤ 1048576 := by have : Bulk.blk o = Bulk.blk o.ops := rfl; omega
  go_enter Try.func24, Try.ntmps24
  go_wp2_with fail
  refine (to_ListIrOp o.ops _ _ (hv1.ext (Ext.auto)) hn1).mono ?_
  rintro e w1 ⟨r1, F1, rfl, ho1, hf1, hx1⟩
  obtain ⟨B1, d1, rfl, -, -⟩ := ho1.sl.form
  have hs1 := hx1.size
  try simp at hs1
  have he1 : Ext w w1 := Ext.trans (Ext.auto) hx1
  have hc1 := fun b o (hb : b < w.heap.size + 1 + 1 + 1) => hx1.cell (b := b) (o := o) (by first | omega | (simp; omega))
  have hg1 := fun b o (hb : b < w.heap.size + 1 + 1 + 1) => hx1.frozen (b := b) (o := o) (by first | omega | (simp; omega))
  go_wp2
  refine bodyPost_ret (v := .agg #[.int .i64 o.pc, .int .i64 o.len, .slice B1 (o.ops).length d1, .int .i64 o.fin, .int .i64 o.x, .int .i64 o.y, .int .i64 o.k]) (by simp [results, Try.results24, go_sem, hc1, hg1]) rfl ⟨_, F1, rfl, ?_, ?_, ?_⟩
  · exact OwnSl.stay ho1 (fun b hb => by
      have q := hf1.2 b (by simp [hb]); have q1 := q.1; have q2 := q.2; simp at q1 q2
      repeat (first | rw [heap_set _ _ _ _ (by simp; omega)]))
  · exact Fr.mk1 hf1 (by first | omega | (simp; done) | (simp; omega)) (by first | omega | (simp; done) | (simp; omega))
  · exact (Ext.hold he1)

set_option maxHeartbeats 1000000 in
theorem to_MchMach (o : MchMach) (v1 v2 v3 v4 : Value) (w : World) (hv1 : Sl w (Old w) v1 o.regs) (hv2 : Sl w (Old w) v2 o.mem) (hv3 : Sl w (Old w) v3 o.ins) (hv4 : Sl w (Old w) v4 o.outs) (hn : Bulk.blk o ≤ 1048576) :
    Calls Try.prog 25 #[.agg #[v1, .int .i64 o.pc, v2, .int .i64 o.save, .bool o.lets, .bool o.waits, .int .i64 o.halt, v3, v4, .int .i64 o.count]] w fun e w' => ∃ (r1 r2 r3 r4 : Value) (F1 F2 F3 F4 : List Nat), e = .returned (.agg #[r1, .int .i64 o.pc, r2, .int .i64 o.save, .bool o.lets, .bool o.waits, .int .i64 o.halt, r3, r4, .int .i64 o.count]) ∧ OwnSl w' r1 o.regs F1 ∧ OwnSl w' r2 o.mem F2 ∧ OwnSl w' r3 o.ins F3 ∧ OwnSl w' r4 o.outs F4 ∧ Fr w w' (F1 ++ F2 ++ F3 ++ F4) ∧ Ext w w' := by
  obtain ⟨Av1, cv1, rfl, -, -⟩ := hv1.form
  obtain ⟨Av2, cv2, rfl, -, -⟩ := hv2.form
  obtain ⟨Av3, cv3, rfl, -, -⟩ := hv3.form
  obtain ⟨Av4, cv4, rfl, -, -⟩ := hv4.form
  have hn1 : Bulk.blk o.regs ≤ 1048576 := by have : Bulk.blk o = Bulk.blk o.regs + Bulk.blk o.mem + Bulk.blk o.ins + Bulk.blk o.outs := rfl; omega
  have hn2 : Bulk.blk o.mem ≤ 1048576 := by have : Bulk.blk o = Bulk.blk o.regs + Bulk.blk o.mem + Bulk.blk o.ins + Bulk.blk o.outs := rfl; omega
  have hn3 : Bulk.blk o.ins ≤ 1048576 := by have : Bulk.blk o = Bulk.blk o.regs + Bulk.blk o.mem + Bulk.blk o.ins + Bulk.blk o.outs := rfl; omega
  have hn4 : Bulk.blk o.outs ≤ 1048576 := by have : Bulk.blk o = Bulk.blk o.regs + Bulk.blk o.mem + Bulk.blk o.ins + Bulk.blk o.outs := rfl; omega
  go_enter Try.func25, Try.ntmps25
  go_wp2_with fail
  refine (to_ListInt o.regs _ _ (hv1.ext (Ext.auto)) hn1).mono ?_
  rintro e w1 ⟨r1, F1, rfl, ho1, hf1, hx1⟩
  obtain ⟨B1, d1, rfl, -, -⟩ := ho1.sl.form
  have hs1 := hx1.size
  try simp at hs1
  have he1 : Ext w w1 := Ext.trans (Ext.auto) hx1
  have hc1 := fun b o (hb : b < w.heap.size + 1 + 1 + 1) => hx1.cell (b := b) (o := o) (by first | omega | (simp; omega))
  have hg1 := fun b o (hb : b < w.heap.size + 1 + 1 + 1) => hx1.frozen (b := b) (o := o) (by first | omega | (simp; omega))
  go_wp2_with fail
  refine (to_ListInt o.mem _ _ (hv2.ext (Ext.hold he1)) hn2).mono ?_
  rintro e w2 ⟨r2, F2, rfl, ho2, hf2, hx2⟩
  obtain ⟨B2, d2, rfl, -, -⟩ := ho2.sl.form
  have hs2 := hx2.size
  try simp at hs2
  have he2 : Ext w w2 := Ext.trans (Ext.hold he1) hx2
  have hc2 := fun b o (hb : b < w.heap.size + 1 + 1 + 1) => hx2.cell (b := b) (o := o) (by first | omega | (simp; omega))
  have hg2 := fun b o (hb : b < w.heap.size + 1 + 1 + 1) => hx2.frozen (b := b) (o := o) (by first | omega | (simp; omega))
  go_wp2_with fail
  refine (to_ListInt o.ins _ _ (hv3.ext (Ext.hold2 he2 he1)) hn3).mono ?_
  rintro e w3 ⟨r3, F3, rfl, ho3, hf3, hx3⟩
  obtain ⟨B3, d3, rfl, -, -⟩ := ho3.sl.form
  have hs3 := hx3.size
  try simp at hs3
  have he3 : Ext w w3 := Ext.trans (Ext.hold2 he2 he1) hx3
  have hc3 := fun b o (hb : b < w.heap.size + 1 + 1 + 1) => hx3.cell (b := b) (o := o) (by first | omega | (simp; omega))
  have hg3 := fun b o (hb : b < w.heap.size + 1 + 1 + 1) => hx3.frozen (b := b) (o := o) (by first | omega | (simp; omega))
  go_wp2_with fail
  refine (to_ListInt o.outs _ _ (hv4.ext (by (repeat' (first | (with_reducible exact Ext.refl _) | (with_reducible exact he3) | (with_reducible exact he2) | (with_reducible exact he1) | (with_reducible apply Ext.alloc) | (with_reducible apply Ext.drew) | (with_reducible refine Ext.setCell ?_ ?_ _))); all_goals (first | (simp; done) | (simp; omega) | omega))) hn4).mono ?_
  rintro e w4 ⟨r4, F4, rfl, ho4, hf4, hx4⟩
  obtain ⟨B4, d4, rfl, -, -⟩ := ho4.sl.form
  have hs4 := hx4.size
  try simp at hs4
  have he4 : Ext w w4 := Ext.trans (by (repeat' (first | (with_reducible exact Ext.refl _) | (with_reducible exact he3) | (with_reducible exact he2) | (with_reducible exact he1) | (with_reducible apply Ext.alloc) | (with_reducible apply Ext.drew) | (with_reducible refine Ext.setCell ?_ ?_ _))); all_goals (first | (simp; done) | (simp; omega) | omega)) hx4
  have hc4 := fun b o (hb : b < w.heap.size + 1 + 1 + 1) => hx4.cell (b := b) (o := o) (by first | omega | (simp; omega))
  have hg4 := fun b o (hb : b < w.heap.size + 1 + 1 + 1) => hx4.frozen (b := b) (o := o) (by first | omega | (simp; omega))
  go_wp2
  refine bodyPost_ret (v := .agg #[.slice B1 (o.regs).length d1, .int .i64 o.pc, .slice B2 (o.mem).length d2, .int .i64 o.save, .bool o.lets, .bool o.waits, .int .i64 o.halt, .slice B3 (o.ins).length d3, .slice B4 (o.outs).length d4, .int .i64 o.count]) (by simp [results, Try.results25, go_sem, hc1, hg1, hc2, hg2, hc3, hg3, hc4, hg4]) rfl ⟨_, _, _, _, F1, F2, F3, F4, rfl, ?_, ?_, ?_, ?_, ?_, ?_⟩
  · exact OwnSl.stay ho1 (fun b hb => by
      have q := hf1.2 b (by simp [hb]); have q1 := q.1; have q2 := q.2; simp at q1 q2
      repeat (first | rw [heap_set _ _ _ _ (by simp; omega)] | rw [Ext.heap hx2 (by simp; omega)] | rw [Ext.heap hx3 (by simp; omega)] | rw [Ext.heap hx4 (by simp; omega)]))
  · exact OwnSl.stay ho2 (fun b hb => by
      have q := hf2.2 b (by simp [hb]); have q1 := q.1; have q2 := q.2; simp at q1 q2
      repeat (first | rw [heap_set _ _ _ _ (by simp; omega)] | rw [Ext.heap hx3 (by simp; omega)] | rw [Ext.heap hx4 (by simp; omega)]))
  · exact OwnSl.stay ho3 (fun b hb => by
      have q := hf3.2 b (by simp [hb]); have q1 := q.1; have q2 := q.2; simp at q1 q2
      repeat (first | rw [heap_set _ _ _ _ (by simp; omega)] | rw [Ext.heap hx4 (by simp; omega)]))
  · exact OwnSl.stay ho4 (fun b hb => by
      have q := hf4.2 b (by simp [hb]); have q1 := q.1; have q2 := q.2; simp at q1 q2
      repeat (first | rw [heap_set _ _ _ _ (by simp; omega)]))
  · first | exact (Fr.mk2 (Fr.mk2 (w := w) (w' := w3) (Fr.mk2 (w := w) (w' := w2) hf1 hf2 (by first | omega | (simp; done) | (simp; omega)) (by first | omega | (simp; done) | (simp; omega)) (by first | omega | (simp; done) | (simp; omega)) (by first | omega | (simp; done) | (simp; omega)) (by first | omega | (simp; done) | (simp; omega))) hf3 (by first | omega | (simp; done) | (simp; omega)) (by first | omega | (simp; done) | (simp; omega)) (by first | omega | (simp; done) | (simp; omega)) (by first | omega | (simp; done) | (simp; omega)) (by first | omega | (simp; done) | (simp; omega))) hf4 (by first | omega | (simp; done) | (simp; omega)) (by first | omega | (simp; done) | (simp; omega)) (by first | omega | (simp; done) | (simp; omega)) (by first | omega | (simp; done) | (simp; omega)) (by first | omega | (simp; done) | (simp; omega))) | (simp only [List.append_assoc]; have H := (Fr.mk2 (Fr.mk2 (w := w) (w' := w3) (Fr.mk2 (w := w) (w' := w2) hf1 hf2 (by first | omega | (simp; done) | (simp; omega)) (by first | omega | (simp; done) | (simp; omega)) (by first | omega | (simp; done) | (simp; omega)) (by first | omega | (simp; done) | (simp; omega)) (by first | omega | (simp; done) | (simp; omega))) hf3 (by first | omega | (simp; done) | (simp; omega)) (by first | omega | (simp; done) | (simp; omega)) (by first | omega | (simp; done) | (simp; omega)) (by first | omega | (simp; done) | (simp; omega)) (by first | omega | (simp; done) | (simp; omega))) hf4 (by first | omega | (simp; done) | (simp; omega)) (by first | omega | (simp; done) | (simp; omega)) (by first | omega | (simp; done) | (simp; omega)) (by first | omega | (simp; done) | (simp; omega)) (by first | omega | (simp; done) | (simp; omega))); simpa only [List.append_assoc] using H)
  · exact (by (repeat' (first | (with_reducible exact Ext.refl _) | (with_reducible exact he4) | (with_reducible exact he3) | (with_reducible exact he2) | (with_reducible exact he1) | (with_reducible apply Ext.alloc) | (with_reducible apply Ext.drew) | (with_reducible refine Ext.setCell ?_ ?_ _))); all_goals (first | (simp; done) | (simp; omega) | omega))

end Go.Proofs.Yteaacelfnkiboaa
