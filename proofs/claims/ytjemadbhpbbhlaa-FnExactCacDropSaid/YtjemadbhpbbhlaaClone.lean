/-
  The program and the reference copy slices into fresh memory.
-/
import Derived.Test.YtjemadbhpbbhlaaAppLib
import Derived.Test.YtjemadbhpbbhlaaTo
namespace Go.Proofs.Ytjemadbhpbbhlaa
open Go.RowKit

set_option linter.unusedVariables false
set_option linter.unusedSimpArgs false
set_option maxRecDepth 100000

instance : Flat IrOp where
  pos := by decide
  flat h := ⟨h.1, h.2, rfl⟩
  one h u hu := by
    obtain ⟨rfl, _⟩ := h
    simp at hu
    rcases hu with rfl | rfl | rfl | rfl | rfl <;> rfl

set_option maxHeartbeats 1000000 in
theorem cloneInts_any (l : List Int) (v : Value) (w : World) (h : Sl w (Old w) v l) (hn : l.length ≤ 4194304) :
    Calls Try.prog 152 #[v] w fun e w' => ∃ r F, e = .returned r ∧ OwnSl w' r l F ∧ Fr w w' F ∧ Ext w w' := by
  obtain ⟨A, c, rfl, hl, hm⟩ := h.form
  obtain ⟨i0, hi, hz0, hz1, hz2⟩ := info_parts infInt
  have HI := hide hi
  have HZ0 := hide hz0
  have HZ1 := hide hz1
  have HZ2 := hide hz2
  clear hi hz0 hz1 hz2
  go_enter Try.func152, Try.ntmps152
  go_wp2_with (at_builtin; refine wpList_append_flat (w0 := w) (α := Int) rfl _ _ 63 rfl i0 _ 8 Try.underlying63 HI.out HZ0.out HZ1.out HZ2.out rfl (App.nil w 3) rfl _ l (Old w) rfl h (by simp [maxLen]; omega) (by simp; omega) ?_; intro v' w' Fs' xs' hA; obtain ⟨F, hO, hF⟩ := hA.done; have hE := hA.ext; clear hA)
  go_ret
  exact ⟨_, F, rfl, hO, hF, hE⟩

set_option maxHeartbeats 1000000 in
theorem cloneBlock_any (o : IrBlock) (v1 : Value) (w : World) (h : Sl w (Old w) v1 o.ops) (hn : o.ops.length ≤ 4194304) :
    Calls Try.prog 97 #[.agg #[.int .i64 o.pc, .int .i64 o.len, v1, .int .i64 o.fin, .int .i64 o.x, .int .i64 o.y, .int .i64 o.k]] w fun e w' => ∃ r1 F, e = .returned (.agg #[.int .i64 o.pc, .int .i64 o.len, r1, .int .i64 o.fin, .int .i64 o.x, .int .i64 o.y, .int .i64 o.k]) ∧ OwnSl w' r1 o.ops F ∧ Fr w w' F ∧ Ext w w' := by
  obtain ⟨A, c, rfl, hl, hm⟩ := h.form
  obtain ⟨i0, hi, hz0, hz1, hz2⟩ := info_parts infIrOp
  have HI := hide hi
  have HZ0 := hide hz0
  have HZ1 := hide hz1
  have HZ2 := hide hz2
  clear hi hz0 hz1 hz2
  go_enter Try.func97, Try.ntmps97
  go_wp2_with (at_builtin; refine wpList_append_flat (α := IrOp) rfl _ _ 28 rfl i0 _ 40 Try.underlying28 HI.out HZ0.out HZ1.out HZ2.out rfl (App.nil _ 92) rfl _ o.ops (Old w) rfl (h.keep (Ext.old (Ext.auto)) (fun _ h => h)) (by simp [maxLen]; omega) (by simp; omega) ?_; intro v' w1 Fs' xs' hA; obtain ⟨F, hO, hF⟩ := hA.done; have hx1 := hA.ext; clear hA; obtain ⟨B1, d1, rfl, -, -⟩ := hO.sl.form; have hs1 := hx1.size; try simp at hs1; have he1 : Ext w w1 := Ext.trans (Ext.auto) hx1; have hc1 := fun b o (hb : b < w.heap.size + 1 + 1) => hx1.cell (b := b) (o := o) (by first | omega | (simp; omega)); have hg1 := fun b o (hb : b < w.heap.size + 1 + 1) => hx1.frozen (b := b) (o := o) (by first | omega | (simp; omega)); have hcell : w1.cell? ⟨w.heap.size, 2, none⟩ = some (.slice A o.ops.length c) := by rw [hc1 _ _ (by omega)]; simp [go_sem])
  refine bodyPost_ret (v := .agg #[.int .i64 o.pc, .int .i64 o.len, .slice B1 o.ops.length d1, .int .i64 o.fin, .int .i64 o.x, .int .i64 o.y, .int .i64 o.k]) (by simp [results, Try.results97, go_sem, hc1, hg1]) rfl ⟨_, F, rfl, ?_, ?_, ?_⟩
  · exact OwnSl.stay hO (fun b hb => by
      have q := hF.2 b hb; have q1 := q.1; have q2 := q.2; simp at q1 q2
      repeat (first | rw [heap_set _ _ _ _ (by simp; omega)]))
  · exact Fr.mk1 hF (by simp; try omega) (by simp; try omega)
  · exact (Ext.hold he1)

set_option maxHeartbeats 1000000 in
theorem l6Copy_any (o : IrBlock) (v1 : Value) (w : World) (h : Sl w (Old w) v1 o.ops) (hn : o.ops.length ≤ 4194304) :
    Calls Try.prog 95 #[.agg #[.int .i64 o.pc, .int .i64 o.len, v1, .int .i64 o.fin, .int .i64 o.x, .int .i64 o.y, .int .i64 o.k]] w fun e w' => ∃ r1 F, e = .returned (.agg #[.int .i64 o.pc, .int .i64 o.len, r1, .int .i64 o.fin, .int .i64 o.x, .int .i64 o.y, .int .i64 o.k]) ∧ OwnSl w' r1 o.ops F ∧ Fr w w' F ∧ Ext w w' := by
  obtain ⟨A, c, rfl, hl, hm⟩ := h.form
  obtain ⟨i0, hi, hz0, hz1, hz2⟩ := info_parts infIrOp
  have HI := hide hi
  have HZ0 := hide hz0
  have HZ1 := hide hz1
  have HZ2 := hide hz2
  clear hi hz0 hz1 hz2
  go_enter Try.func95, Try.ntmps95
  go_wp2_with (at_builtin; refine wpList_append_flat (α := IrOp) rfl _ _ 28 rfl i0 _ 40 Try.underlying28 HI.out HZ0.out HZ1.out HZ2.out rfl (App.emptyAt _ 92 _ (by simp)) rfl _ o.ops (Old w) rfl (h.keep (Ext.old (Ext.auto)) (fun _ h => h)) (by simp [maxLen]; omega) (by simp; omega) ?_; intro v' w1 Fs' xs' hA; obtain ⟨F, hO, hF⟩ := hA.done; have hx1 := hA.ext; clear hA; obtain ⟨B1, d1, rfl, -, -⟩ := hO.sl.form; have hs1 := hx1.size; try simp at hs1; have he1 : Ext w w1 := Ext.trans (Ext.auto) hx1; have hc1 := fun b o (hb : b < w.heap.size + 1 + 1 + 1) => hx1.cell (b := b) (o := o) (by first | omega | (simp; omega)); have hg1 := fun b o (hb : b < w.heap.size + 1 + 1 + 1) => hx1.frozen (b := b) (o := o) (by first | omega | (simp; omega)); have hcell : w1.cell? ⟨w.heap.size + 1 + 1, 2, none⟩ = some (.slice A o.ops.length c) := by rw [hc1 _ _ (by omega)]; simp [go_sem])
  refine bodyPost_ret (v := .agg #[.int .i64 o.pc, .int .i64 o.len, .slice B1 o.ops.length d1, .int .i64 o.fin, .int .i64 o.x, .int .i64 o.y, .int .i64 o.k]) (by simp [results, Try.results95, go_sem, hc1, hg1]) rfl ⟨_, F, rfl, ?_, ?_, ?_⟩
  · exact OwnSl.stay hO (fun b hb => by
      have q := hF.2 b hb; have q1 := q.1; have q2 := q.2; simp at q1 q2
      repeat (first | rw [heap_set _ _ _ _ (by simp; omega)]))
  · exact Fr.mk1 hF (by simp; try omega) (by simp; try omega)
  · exact (Ext.hold he1)

end Go.Proofs.Ytjemadbhpbbhlaa
