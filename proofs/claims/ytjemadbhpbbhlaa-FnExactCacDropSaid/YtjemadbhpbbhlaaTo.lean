/-
  The laws copy their arguments into fresh memory (to..): what comes back reads as what came in.
-/
import Derived.Test.YtjemadbhpbbhlaaRows
import Derived.Test.YtjemadbhpbbhlaaTy
namespace Go.Proofs.Ytjemadbhpbbhlaa
open Go.RowKit

set_option linter.unusedVariables false
set_option linter.unusedSimpArgs false
set_option maxRecDepth 100000

theorem infInt : (Try.prog.info? 3).map (fun i => (i.zero, i.size, i.bytes)) = some (some (.int .i64 0), 1, 8) := by kernel_rfl
set_option maxHeartbeats 1000000 in
theorem to_ListInt (l : List Int) (v : Value) (w : World) (h : Sl w (Old w) v l) (hn : Bulk.blk l ≤ 1048576) :
    Calls Try.prog 65 #[v] w fun e w' => ∃ r F, e = .returned r ∧ OwnSl w' r l F ∧ Fr w w' F ∧ Ext w w' := by
  obtain ⟨A, c, rfl, hl, hm⟩ := h.form
  unfold maxLen at hm
  have hb := blk_len l
  obtain ⟨i0, hi, hz0, hz1, hz2⟩ := info_parts infInt
  have hmk : ∀ w : World, (Instr.makeSlice 63 (.int .i64 (l.length : Int)) (.int .i64 (l.length : Int))).run Try.prog w = .ok (.slice (some ⟨w.heap.size, 0, none⟩) l.length l.length) (w.alloc (.cells (madeCells _ (l.length * i0.size)) 3)) :=
    fun w => run_make_rowN 63 3 i0 _ Try.underlying63 hi hz0 _ _ l.length l.length (Nat.le_refl _) (by rw [hz2]; omega) (by omega) w
  have HZ := hide hz1
  clear hi hz0 hz1 hz2
  go_enter Try.func65, Try.ntmps65
  go_wp2
  go_loopw [4] (fun i wr => ∃ (k : Nat) (Fs : List (List Nat)), k ≤ l.length ∧ i = .int .i64 k ∧ Row w wr w.heap.size l.length k l Fs) (fun i _ => l.length - (intOf i).toNat)
  case atStart => exact ⟨0, [], by omega, rfl, Row.start _ _ _ _ _ (by rw [size_madeCells, HZ.out]; rfl)⟩
  case round =>
    obtain ⟨k, Fs, hk, rfl, hr⟩ := hrel
    by_cases hlt : k < l.length
    · obtain ⟨b, off, rfl, hbo, hk0, e0⟩ := at_Int (h.ext hr.ext) hlt
      have z0 : (0 : Int) ≤ (k : Int) := by omega
      have z1 : (k : Int) < (l.length : Int) := by omega
      have hx : Ext wr wr := Ext.refl _
      have hown : Own.own wr [.int .i64 (l[k])] l[k] [] := ⟨⟨rfl, hk0⟩, rfl⟩
      have hfr : Fr wr wr [] := Fr.nil _ _
      have hr1 := hr.call hx
      obtain ⟨s0, g0⟩ := hr1.there (k) (by show _ < l.length * 1; omega)
      have hf := hr1.fz
      go_wp2
      go_roundw
      case rel => exact ⟨k + 1, _, by omega, by go_num, hr.put hx (List.getElem?_eq_getElem hlt) hown hfr (by have := Put.one (v := .int .i64 (l[k])) g0; simpa [Rep.sz] using this)⟩
      case measure => simp [intOf]; omega
    · obtain rfl : k = l.length := by omega
      go_wp2
      go_ret
      obtain ⟨F, ho, hf⟩ := hr.done (by unfold maxLen; omega)
      exact ⟨_, F, rfl, ho, hf, hr.ext⟩

theorem infUInt8 : (Try.prog.info? 5).map (fun i => (i.zero, i.size, i.bytes)) = some (some (.int .u8 0), 1, 1) := by kernel_rfl
set_option maxHeartbeats 1000000 in
theorem to_ListUInt8 (l : List UInt8) (v : Value) (w : World) (h : Sl w (Old w) v l) (hn : Bulk.blk l ≤ 1048576) :
    Calls Try.prog 26 #[v] w fun e w' => ∃ r F, e = .returned r ∧ OwnSl w' r l F ∧ Fr w w' F ∧ Ext w w' := by
  obtain ⟨A, c, rfl, hl, hm⟩ := h.form
  unfold maxLen at hm
  have hb := blk_len l
  obtain ⟨i0, hi, hz0, hz1, hz2⟩ := info_parts infUInt8
  have hmk : ∀ w : World, (Instr.makeSlice 26 (.int .i64 (l.length : Int)) (.int .i64 (l.length : Int))).run Try.prog w = .ok (.slice (some ⟨w.heap.size, 0, none⟩) l.length l.length) (w.alloc (.cells (madeCells _ (l.length * i0.size)) 5)) :=
    fun w => run_make_rowN 26 5 i0 _ Try.underlying26 hi hz0 _ _ l.length l.length (Nat.le_refl _) (by rw [hz2]; omega) (by omega) w
  have HZ := hide hz1
  clear hi hz0 hz1 hz2
  go_enter Try.func26, Try.ntmps26
  go_wp2
  go_loopw [4] (fun i wr => ∃ (k : Nat) (Fs : List (List Nat)), k ≤ l.length ∧ i = .int .i64 k ∧ Row w wr w.heap.size l.length k l Fs) (fun i _ => l.length - (intOf i).toNat)
  case atStart => exact ⟨0, [], by omega, rfl, Row.start _ _ _ _ _ (by rw [size_madeCells, HZ.out]; rfl)⟩
  case round =>
    obtain ⟨k, Fs, hk, rfl, hr⟩ := hrel
    by_cases hlt : k < l.length
    · obtain ⟨b, off, rfl, hbo, e0⟩ := at_UInt8 (h.ext hr.ext) hlt
      have z0 : (0 : Int) ≤ (k : Int) := by omega
      have z1 : (k : Int) < (l.length : Int) := by omega
      have hx : Ext wr wr := Ext.refl _
      have hown : Own.own wr [.int .u8 (l[k].toNat : Int)] l[k] [] := ⟨rfl, rfl⟩
      have hfr : Fr wr wr [] := Fr.nil _ _
      have hr1 := hr.call hx
      obtain ⟨s0, g0⟩ := hr1.there (k) (by show _ < l.length * 1; omega)
      have hf := hr1.fz
      go_wp2
      go_roundw
      case rel => exact ⟨k + 1, _, by omega, by go_num, hr.put hx (List.getElem?_eq_getElem hlt) hown hfr (by have := Put.one (v := .int .u8 (l[k].toNat : Int)) g0; simpa [Rep.sz] using this)⟩
      case measure => simp [intOf]; omega
    · obtain rfl : k = l.length := by omega
      go_wp2
      go_ret
      obtain ⟨F, ho, hf⟩ := hr.done (by unfold maxLen; omega)
      exact ⟨_, F, rfl, ho, hf, hr.ext⟩

set_option maxHeartbeats 1000000 in
theorem to_IrOp (o : IrOp) (w : World) :
    Calls Try.prog 131 #[.agg #[.int .i64 o.kind, .int .i64 o.x, .int .i64 o.y, .int .i64 o.k, .int .i64 o.at_]] w fun e w' => e = .returned (.agg #[.int .i64 o.kind, .int .i64 o.x, .int .i64 o.y, .int .i64 o.k, .int .i64 o.at_]) ∧ Ext w w' := by
  go_enter Try.func131, Try.ntmps131
  go_wp2
  refine bodyPost_ret (v := .agg #[.int .i64 o.kind, .int .i64 o.x, .int .i64 o.y, .int .i64 o.k, .int .i64 o.at_]) (by simp [results, Try.results131, go_sem]) rfl ⟨rfl, ?_⟩
  repeat (first | exact Ext.refl _ | apply Ext.alloc)

theorem infIrOp : (Try.prog.info? 92).map (fun i => (i.zero, i.size, i.bytes)) = some (some (.agg #[.int .i64 0, .int .i64 0, .int .i64 0, .int .i64 0, .int .i64 0]), 5, 40) := by kernel_rfl
set_option maxHeartbeats 1000000 in
theorem to_ListIrOp (l : List IrOp) (v : Value) (w : World) (h : Sl w (Old w) v l) (hn : Bulk.blk l ≤ 1048576) :
    Calls Try.prog 83 #[v] w fun e w' => ∃ r F, e = .returned r ∧ OwnSl w' r l F ∧ Fr w w' F ∧ Ext w w' := by
  obtain ⟨A, c, rfl, hl, hm⟩ := h.form
  unfold maxLen at hm
  have hb := blk_len l
  obtain ⟨i0, hi, hz0, hz1, hz2⟩ := info_parts infIrOp
  have hmk : ∀ w : World, (Instr.makeSlice 28 (.int .i64 (l.length : Int)) (.int .i64 (l.length : Int))).run Try.prog w = .ok (.slice (some ⟨w.heap.size, 0, none⟩) l.length l.length) (w.alloc (.cells (madeCells _ (l.length * i0.size)) 92)) :=
    fun w => run_make_rowN 28 92 i0 _ Try.underlying28 hi hz0 _ _ l.length l.length (Nat.le_refl _) (by rw [hz2]; omega) (by omega) w
  have HZ := hide hz1
  clear hi hz0 hz1 hz2
  go_enter Try.func83, Try.ntmps83
  go_wp2
  go_loopw [4] (fun i wr => ∃ (k : Nat) (Fs : List (List Nat)), k ≤ l.length ∧ i = .int .i64 k ∧ Row w wr w.heap.size l.length k l Fs) (fun i _ => l.length - (intOf i).toNat)
  case atStart => exact ⟨0, [], by omega, rfl, Row.start _ _ _ _ _ (by rw [size_madeCells, HZ.out]; rfl)⟩
  case round =>
    obtain ⟨k, Fs, hk, rfl, hr⟩ := hrel
    by_cases hlt : k < l.length
    · obtain ⟨b, off, rfl, hbo, hk0, e0, e1, e2, e3, e4⟩ := at_IrOp (h.ext hr.ext) hlt
      have z0 : (0 : Int) ≤ (k : Int) := by omega
      have z1 : (k : Int) < (l.length : Int) := by omega
      go_wp2_with fail
      refine (to_IrOp l[k] _).mono ?_
      rintro e w1 ⟨rfl, hx⟩
      have hown : Own.own w1 [.int .i64 (l[k].kind), .int .i64 (l[k].x), .int .i64 (l[k].y), .int .i64 (l[k].k), .int .i64 (l[k].at_)] l[k] [] := ⟨rfl, hk0, rfl⟩
      have hfr : Fr wr w1 [] := Fr.nil _ _
      have hr1 := hr.call hx
      obtain ⟨s0, g0⟩ := hr1.there (k * 5) (by show _ < l.length * 5; omega)
      obtain ⟨s1, g1⟩ := hr1.there (k * 5 + 1) (by show _ < l.length * 5; omega)
      obtain ⟨s2, g2⟩ := hr1.there (k * 5 + 2) (by show _ < l.length * 5; omega)
      obtain ⟨s3, g3⟩ := hr1.there (k * 5 + 3) (by show _ < l.length * 5; omega)
      obtain ⟨s4, g4⟩ := hr1.there (k * 5 + 4) (by show _ < l.length * 5; omega)
      have hf := hr1.fz
      go_wp2
      go_roundw
      case rel => exact ⟨k + 1, _, by omega, by go_num, hr.put hx (List.getElem?_eq_getElem hlt) hown hfr (Put.all _ fun j hj => hr1.there _ (by show _ < l.length * 5; have : j < 5 := hj; show k * 5 + j < _; omega))⟩
      case measure => simp [intOf]; omega
    · obtain rfl : k = l.length := by omega
      go_wp2
      go_ret
      obtain ⟨F, ho, hf⟩ := hr.done (by unfold maxLen; omega)
      exact ⟨_, F, rfl, ho, hf, hr.ext⟩

set_option maxHeartbeats 1000000 in
theorem to_IrBlock (o : IrBlock) (v1 : Value) (w : World) (hv1 : Sl w (Old w) v1 o.ops) (hn : Bulk.blk o ≤ 1048576) :
    Calls Try.prog 18 #[.agg #[.int .i64 o.pc, .int .i64 o.len, v1, .int .i64 o.fin, .int .i64 o.x, .int .i64 o.y, .int .i64 o.k]] w fun e w' => ∃ (r1 : Value) (F1 : List Nat), e = .returned (.agg #[.int .i64 o.pc, .int .i64 o.len, r1, .int .i64 o.fin, .int .i64 o.x, .int .i64 o.y, .int .i64 o.k]) ∧ OwnSl w' r1 o.ops F1 ∧ Fr w w' (F1) ∧ Ext w w' := by
  obtain ⟨Av1, cv1, rfl, -, -⟩ := hv1.form
  have hn1 : Bulk.blk o.ops ≤ 1048576 := by have : Bulk.blk o = Bulk.blk o.ops := rfl; omega
  go_enter Try.func18, Try.ntmps18
  go_wp2_with fail
  refine (to_ListIrOp o.ops _ _ (hv1.ext (Ext.auto)) hn1).mono ?_
  rintro e w1 ⟨r1, F1, rfl, ho1, hf1, hx1⟩
  obtain ⟨B1, d1, rfl, -, -⟩ := ho1.sl.form
  have hs1 := hx1.size
  try simp at hs1
  have he1 : Ext w w1 := Ext.trans (Ext.auto) hx1
  have hc1 := fun b o (hb : b < w.heap.size + 1 + 1 + 1) => hx1.cell (b := b) (o := o) (by first | omega | (simp; omega))
  have hg1 := fun b o (hb : b < w.heap.size + 1 + 1 + 1) => hx1.frozen (b := b) (o := o) (by first | omega | (simp; omega))
  go_wp2
  refine bodyPost_ret (v := .agg #[.int .i64 o.pc, .int .i64 o.len, .slice B1 (o.ops).length d1, .int .i64 o.fin, .int .i64 o.x, .int .i64 o.y, .int .i64 o.k]) (by simp [results, Try.results18, go_sem, hc1, hg1]) rfl ⟨_, F1, rfl, ?_, ?_, ?_⟩
  · exact OwnSl.stay ho1 (fun b hb => by
      have q := hf1.2 b (by simp [hb]); have q1 := q.1; have q2 := q.2; simp at q1 q2
      repeat (first | rw [heap_set _ _ _ _ (by simp; omega)]))
  · exact Fr.mk1 hf1 (by simp; try omega) (by simp; try omega)
  · exact (Ext.hold he1)

set_option maxHeartbeats 1000000 in
theorem to_CacEntry (o : CacEntry) (v1 v2 : Value) (w : World) (hv1 : Sl w (Old w) v1 o.words) (hv2 : Sl w (Old w) v2 o.block.ops) (hn : Bulk.blk o ≤ 1048576) :
    Calls Try.prog 53 #[.agg #[v1, .int .i64 o.block.pc, .int .i64 o.block.len, v2, .int .i64 o.block.fin, .int .i64 o.block.x, .int .i64 o.block.y, .int .i64 o.block.k]] w fun e w' => ∃ (r1 r2 : Value) (F1 F2 : List Nat), e = .returned (.agg #[r1, .int .i64 o.block.pc, .int .i64 o.block.len, r2, .int .i64 o.block.fin, .int .i64 o.block.x, .int .i64 o.block.y, .int .i64 o.block.k]) ∧ OwnSl w' r1 o.words F1 ∧ OwnSl w' r2 o.block.ops F2 ∧ Fr w w' (F1 ++ F2) ∧ Ext w w' := by
  obtain ⟨Av1, cv1, rfl, -, -⟩ := hv1.form
  obtain ⟨Av2, cv2, rfl, -, -⟩ := hv2.form
  have hn1 : Bulk.blk o.words ≤ 1048576 := by have : Bulk.blk o = Bulk.blk o.words + Bulk.blk o.block := rfl; omega
  have hn2 : Bulk.blk o.block ≤ 1048576 := by have : Bulk.blk o = Bulk.blk o.words + Bulk.blk o.block := rfl; omega
  go_enter Try.func53, Try.ntmps53
  go_wp2_with fail
  refine (to_ListInt o.words _ _ (hv1.ext (Ext.auto)) hn1).mono ?_
  rintro e w1 ⟨r1, F1, rfl, ho1, hf1, hx1⟩
  obtain ⟨B1, d1, rfl, -, -⟩ := ho1.sl.form
  have hs1 := hx1.size
  try simp at hs1
  have he1 : Ext w w1 := Ext.trans (Ext.auto) hx1
  have hc1 := fun b o (hb : b < w.heap.size + 1 + 1 + 1) => hx1.cell (b := b) (o := o) (by first | omega | (simp; omega))
  have hg1 := fun b o (hb : b < w.heap.size + 1 + 1 + 1) => hx1.frozen (b := b) (o := o) (by first | omega | (simp; omega))
  go_wp2_with fail
  refine (to_IrBlock o.block _ _ (hv2.ext (Ext.hold he1)) hn2).mono ?_
  rintro e w2 ⟨r2, F2, rfl, ho2, hf2, hx2⟩
  obtain ⟨B2, d2, rfl, -, -⟩ := ho2.sl.form
  have hs2 := hx2.size
  try simp at hs2
  have he2 : Ext w w2 := Ext.trans (Ext.hold he1) hx2
  have hc2 := fun b o (hb : b < w.heap.size + 1 + 1 + 1) => hx2.cell (b := b) (o := o) (by first | omega | (simp; omega))
  have hg2 := fun b o (hb : b < w.heap.size + 1 + 1 + 1) => hx2.frozen (b := b) (o := o) (by first | omega | (simp; omega))
  go_wp2
  refine bodyPost_ret (v := .agg #[.slice B1 (o.words).length d1, .int .i64 o.block.pc, .int .i64 o.block.len, .slice B2 (o.block.ops).length d2, .int .i64 o.block.fin, .int .i64 o.block.x, .int .i64 o.block.y, .int .i64 o.block.k]) (by simp [results, Try.results53, go_sem, hc1, hg1, hc2, hg2]) rfl ⟨_, _, F1, F2, rfl, ?_, ?_, ?_, ?_⟩
  · exact OwnSl.stay ho1 (fun b hb => by
      have q := hf1.2 b (by simp [hb]); have q1 := q.1; have q2 := q.2; simp at q1 q2
      repeat (first | rw [heap_set _ _ _ _ (by simp; omega)] | rw [Ext.heap hx2 (by simp; omega)]))
  · exact OwnSl.stay ho2 (fun b hb => by
      have q := hf2.2 b (by simp [hb]); have q1 := q.1; have q2 := q.2; simp at q1 q2
      repeat (first | rw [heap_set _ _ _ _ (by simp; omega)]))
  · first | exact (Fr.mk2 hf1 hf2 (by simp; try omega) (by simp; try omega) (by simp; try omega) (by simp; try omega) (by simp; try omega)) | (simp only [List.append_assoc]; have H := (Fr.mk2 hf1 hf2 (by simp; try omega) (by simp; try omega) (by simp; try omega) (by simp; try omega) (by simp; try omega)); simpa only [List.append_assoc] using H)
  · exact (Ext.hold2 he2 he1)

theorem infCacEntry : (Try.prog.info? 72).map (fun i => (i.zero, i.size, i.bytes)) = some (some (.agg #[.slice none 0 0, .int .i64 0, .int .i64 0, .slice none 0 0, .int .i64 0, .int .i64 0, .int .i64 0, .int .i64 0]), 8, 96) := by kernel_rfl
set_option maxHeartbeats 1000000 in
theorem to_ListCacEntry (l : List CacEntry) (v : Value) (w : World) (h : Sl w (Old w) v l) (hn : Bulk.blk l ≤ 1048576) :
    Calls Try.prog 52 #[v] w fun e w' => ∃ r F, e = .returned r ∧ OwnSl w' r l F ∧ Fr w w' F ∧ Ext w w' := by
  obtain ⟨A, c, rfl, hl, hm⟩ := h.form
  unfold maxLen at hm
  have hb := blk_len l
  obtain ⟨i0, hi, hz0, hz1, hz2⟩ := info_parts infCacEntry
  have hmk : ∀ w : World, (Instr.makeSlice 68 (.int .i64 (l.length : Int)) (.int .i64 (l.length : Int))).run Try.prog w = .ok (.slice (some ⟨w.heap.size, 0, none⟩) l.length l.length) (w.alloc (.cells (madeCells _ (l.length * i0.size)) 72)) :=
    fun w => run_make_rowN 68 72 i0 _ Try.underlying68 hi hz0 _ _ l.length l.length (Nat.le_refl _) (by rw [hz2]; omega) (by omega) w
  have HZ := hide hz1
  clear hi hz0 hz1 hz2
  go_enter Try.func52, Try.ntmps52
  go_wp2
  go_loopw [4] (fun i wr => ∃ (k : Nat) (Fs : List (List Nat)), k ≤ l.length ∧ i = .int .i64 k ∧ Row w wr w.heap.size l.length k l Fs) (fun i _ => l.length - (intOf i).toNat)
  case atStart => exact ⟨0, [], by omega, rfl, Row.start _ _ _ _ _ (by rw [size_madeCells, HZ.out]; rfl)⟩
  case round =>
    obtain ⟨k, Fs, hk, rfl, hr⟩ := hrel
    by_cases hlt : k < l.length
    · obtain ⟨b, off, v1, v2, rfl, hbo, hk0, hv1, hv2, e0, e1, e2, e3, e4, e5, e6, e7⟩ := at_CacEntry (h.ext hr.ext) hlt
      have z0 : (0 : Int) ≤ (k : Int) := by omega
      have z1 : (k : Int) < (l.length : Int) := by omega
      have hbk := blk_el l k hlt
      go_wp2_with fail
      refine (to_CacEntry l[k] _ _ _ hv1 hv2 (by omega)).mono ?_
      rintro e w1 ⟨r1, r2, F1, F2, rfl, ho1, ho2, hfr, hx⟩
      have hown : Own.own w1 [r1, .int .i64 (l[k].block.pc), .int .i64 (l[k].block.len), r2, .int .i64 (l[k].block.fin), .int .i64 (l[k].block.x), .int .i64 (l[k].block.y), .int .i64 (l[k].block.k)] l[k] (F1 ++ F2) := ⟨r1, r2, F1, F2, rfl, hk0, ho1, ho2, rfl⟩
      obtain ⟨B1, d1, rfl, -, -⟩ := ho1.sl.form
      obtain ⟨B2, d2, rfl, -, -⟩ := ho2.sl.form
      have hr1 := hr.call hx
      obtain ⟨s0, g0⟩ := hr1.there (k * 8) (by show _ < l.length * 8; omega)
      obtain ⟨s1, g1⟩ := hr1.there (k * 8 + 1) (by show _ < l.length * 8; omega)
      obtain ⟨s2, g2⟩ := hr1.there (k * 8 + 2) (by show _ < l.length * 8; omega)
      obtain ⟨s3, g3⟩ := hr1.there (k * 8 + 3) (by show _ < l.length * 8; omega)
      obtain ⟨s4, g4⟩ := hr1.there (k * 8 + 4) (by show _ < l.length * 8; omega)
      obtain ⟨s5, g5⟩ := hr1.there (k * 8 + 5) (by show _ < l.length * 8; omega)
      obtain ⟨s6, g6⟩ := hr1.there (k * 8 + 6) (by show _ < l.length * 8; omega)
      obtain ⟨s7, g7⟩ := hr1.there (k * 8 + 7) (by show _ < l.length * 8; omega)
      have hf := hr1.fz
      go_wp2
      go_roundw
      case rel => exact ⟨k + 1, _, by omega, by go_num, hr.put hx (List.getElem?_eq_getElem hlt) hown hfr (Put.all _ fun j hj => hr1.there _ (by show _ < l.length * 8; have : j < 8 := hj; show k * 8 + j < _; omega))⟩
      case measure => simp [intOf]; omega
    · obtain rfl : k = l.length := by omega
      go_wp2
      go_ret
      obtain ⟨F, ho, hf⟩ := hr.done (by unfold maxLen; omega)
      exact ⟨_, F, rfl, ho, hf, hr.ext⟩

set_option maxHeartbeats 1000000 in
theorem to_CerPair (o : CerPair) (v1 v2 : Value) (w : World) (hv1 : Sl w (Old w) v1 o.base.ops) (hv2 : Sl w (Old w) v2 o.made.ops) (hn : Bulk.blk o ≤ 1048576) :
    Calls Try.prog 38 #[.agg #[.int .i64 o.base.pc, .int .i64 o.base.len, v1, .int .i64 o.base.fin, .int .i64 o.base.x, .int .i64 o.base.y, .int .i64 o.base.k, .int .i64 o.made.pc, .int .i64 o.made.len, v2, .int .i64 o.made.fin, .int .i64 o.made.x, .int .i64 o.made.y, .int .i64 o.made.k]] w fun e w' => ∃ (r1 r2 : Value) (F1 F2 : List Nat), e = .returned (.agg #[.int .i64 o.base.pc, .int .i64 o.base.len, r1, .int .i64 o.base.fin, .int .i64 o.base.x, .int .i64 o.base.y, .int .i64 o.base.k, .int .i64 o.made.pc, .int .i64 o.made.len, r2, .int .i64 o.made.fin, .int .i64 o.made.x, .int .i64 o.made.y, .int .i64 o.made.k]) ∧ OwnSl w' r1 o.base.ops F1 ∧ OwnSl w' r2 o.made.ops F2 ∧ Fr w w' (F1 ++ F2) ∧ Ext w w' := by
  obtain ⟨Av1, cv1, rfl, -, -⟩ := hv1.form
  obtain ⟨Av2, cv2, rfl, -, -⟩ := hv2.form
  have hn1 : Bulk.blk o.base ≤ 1048576 := by have : Bulk.blk o = Bulk.blk o.base + Bulk.blk o.made := rfl; omega
  have hn2 : Bulk.blk o.made ≤ 1048576 := by have : Bulk.blk o = Bulk.blk o.base + Bulk.blk o.made := rfl; omega
  go_enter Try.func38, Try.ntmps38
  go_wp2_with fail
  refine (to_IrBlock o.base _ _ (hv1.ext (Ext.auto)) hn1).mono ?_
  rintro e w1 ⟨r1, F1, rfl, ho1, hf1, hx1⟩
  obtain ⟨B1, d1, rfl, -, -⟩ := ho1.sl.form
  have hs1 := hx1.size
  try simp at hs1
  have he1 : Ext w w1 := Ext.trans (Ext.auto) hx1
  have hc1 := fun b o (hb : b < w.heap.size + 1 + 1 + 1) => hx1.cell (b := b) (o := o) (by first | omega | (simp; omega))
  have hg1 := fun b o (hb : b < w.heap.size + 1 + 1 + 1) => hx1.frozen (b := b) (o := o) (by first | omega | (simp; omega))
  go_wp2_with fail
  refine (to_IrBlock o.made _ _ (hv2.ext (Ext.hold he1)) hn2).mono ?_
  rintro e w2 ⟨r2, F2, rfl, ho2, hf2, hx2⟩
  obtain ⟨B2, d2, rfl, -, -⟩ := ho2.sl.form
  have hs2 := hx2.size
  try simp at hs2
  have he2 : Ext w w2 := Ext.trans (Ext.hold he1) hx2
  have hc2 := fun b o (hb : b < w.heap.size + 1 + 1 + 1) => hx2.cell (b := b) (o := o) (by first | omega | (simp; omega))
  have hg2 := fun b o (hb : b < w.heap.size + 1 + 1 + 1) => hx2.frozen (b := b) (o := o) (by first | omega | (simp; omega))
  go_wp2
  refine bodyPost_ret (v := .agg #[.int .i64 o.base.pc, .int .i64 o.base.len, .slice B1 (o.base.ops).length d1, .int .i64 o.base.fin, .int .i64 o.base.x, .int .i64 o.base.y, .int .i64 o.base.k, .int .i64 o.made.pc, .int .i64 o.made.len, .slice B2 (o.made.ops).length d2, .int .i64 o.made.fin, .int .i64 o.made.x, .int .i64 o.made.y, .int .i64 o.made.k]) (by simp [results, Try.results38, go_sem, hc1, hg1, hc2, hg2]) rfl ⟨_, _, F1, F2, rfl, ?_, ?_, ?_, ?_⟩
  · exact OwnSl.stay ho1 (fun b hb => by
      have q := hf1.2 b (by simp [hb]); have q1 := q.1; have q2 := q.2; simp at q1 q2
      repeat (first | rw [heap_set _ _ _ _ (by simp; omega)] | rw [Ext.heap hx2 (by simp; omega)]))
  · exact OwnSl.stay ho2 (fun b hb => by
      have q := hf2.2 b (by simp [hb]); have q1 := q.1; have q2 := q.2; simp at q1 q2
      repeat (first | rw [heap_set _ _ _ _ (by simp; omega)]))
  · first | exact (Fr.mk2 hf1 hf2 (by simp; try omega) (by simp; try omega) (by simp; try omega) (by simp; try omega) (by simp; try omega)) | (simp only [List.append_assoc]; have H := (Fr.mk2 hf1 hf2 (by simp; try omega) (by simp; try omega) (by simp; try omega) (by simp; try omega) (by simp; try omega)); simpa only [List.append_assoc] using H)
  · exact (Ext.hold2 he2 he1)

theorem infCerPair : (Try.prog.info? 54).map (fun i => (i.zero, i.size, i.bytes)) = some (some (.agg #[.int .i64 0, .int .i64 0, .slice none 0 0, .int .i64 0, .int .i64 0, .int .i64 0, .int .i64 0, .int .i64 0, .int .i64 0, .slice none 0 0, .int .i64 0, .int .i64 0, .int .i64 0, .int .i64 0]), 14, 144) := by kernel_rfl
set_option maxHeartbeats 1000000 in
theorem to_ListCerPair (l : List CerPair) (v : Value) (w : World) (h : Sl w (Old w) v l) (hn : Bulk.blk l ≤ 1048576) :
    Calls Try.prog 37 #[v] w fun e w' => ∃ r F, e = .returned r ∧ OwnSl w' r l F ∧ Fr w w' F ∧ Ext w w' := by
  obtain ⟨A, c, rfl, hl, hm⟩ := h.form
  unfold maxLen at hm
  have hb := blk_len l
  obtain ⟨i0, hi, hz0, hz1, hz2⟩ := info_parts infCerPair
  have hmk : ∀ w : World, (Instr.makeSlice 50 (.int .i64 (l.length : Int)) (.int .i64 (l.length : Int))).run Try.prog w = .ok (.slice (some ⟨w.heap.size, 0, none⟩) l.length l.length) (w.alloc (.cells (madeCells _ (l.length * i0.size)) 54)) :=
    fun w => run_make_rowN 50 54 i0 _ Try.underlying50 hi hz0 _ _ l.length l.length (Nat.le_refl _) (by rw [hz2]; omega) (by omega) w
  have HZ := hide hz1
  clear hi hz0 hz1 hz2
  go_enter Try.func37, Try.ntmps37
  go_wp2
  go_loopw [4] (fun i wr => ∃ (k : Nat) (Fs : List (List Nat)), k ≤ l.length ∧ i = .int .i64 k ∧ Row w wr w.heap.size l.length k l Fs) (fun i _ => l.length - (intOf i).toNat)
  case atStart => exact ⟨0, [], by omega, rfl, Row.start _ _ _ _ _ (by rw [size_madeCells, HZ.out]; rfl)⟩
  case round =>
    obtain ⟨k, Fs, hk, rfl, hr⟩ := hrel
    by_cases hlt : k < l.length
    · obtain ⟨b, off, v1, v2, rfl, hbo, hk0, hv1, hv2, e0, e1, e2, e3, e4, e5, e6, e7, e8, e9, e10, e11, e12, e13⟩ := at_CerPair (h.ext hr.ext) hlt
      have z0 : (0 : Int) ≤ (k : Int) := by omega
      have z1 : (k : Int) < (l.length : Int) := by omega
      have hbk := blk_el l k hlt
      go_wp2_with fail
      refine (to_CerPair l[k] _ _ _ hv1 hv2 (by omega)).mono ?_
      rintro e w1 ⟨r1, r2, F1, F2, rfl, ho1, ho2, hfr, hx⟩
      have hown : Own.own w1 [.int .i64 (l[k].base.pc), .int .i64 (l[k].base.len), r1, .int .i64 (l[k].base.fin), .int .i64 (l[k].base.x), .int .i64 (l[k].base.y), .int .i64 (l[k].base.k), .int .i64 (l[k].made.pc), .int .i64 (l[k].made.len), r2, .int .i64 (l[k].made.fin), .int .i64 (l[k].made.x), .int .i64 (l[k].made.y), .int .i64 (l[k].made.k)] l[k] (F1 ++ F2) := ⟨r1, r2, F1, F2, rfl, hk0, ho1, ho2, rfl⟩
      obtain ⟨B1, d1, rfl, -, -⟩ := ho1.sl.form
      obtain ⟨B2, d2, rfl, -, -⟩ := ho2.sl.form
      have hr1 := hr.call hx
      obtain ⟨s0, g0⟩ := hr1.there (k * 14) (by show _ < l.length * 14; omega)
      obtain ⟨s1, g1⟩ := hr1.there (k * 14 + 1) (by show _ < l.length * 14; omega)
      obtain ⟨s2, g2⟩ := hr1.there (k * 14 + 2) (by show _ < l.length * 14; omega)
      obtain ⟨s3, g3⟩ := hr1.there (k * 14 + 3) (by show _ < l.length * 14; omega)
      obtain ⟨s4, g4⟩ := hr1.there (k * 14 + 4) (by show _ < l.length * 14; omega)
      obtain ⟨s5, g5⟩ := hr1.there (k * 14 + 5) (by show _ < l.length * 14; omega)
      obtain ⟨s6, g6⟩ := hr1.there (k * 14 + 6) (by show _ < l.length * 14; omega)
      obtain ⟨s7, g7⟩ := hr1.there (k * 14 + 7) (by show _ < l.length * 14; omega)
      obtain ⟨s8, g8⟩ := hr1.there (k * 14 + 8) (by show _ < l.length * 14; omega)
      obtain ⟨s9, g9⟩ := hr1.there (k * 14 + 9) (by show _ < l.length * 14; omega)
      obtain ⟨s10, g10⟩ := hr1.there (k * 14 + 10) (by show _ < l.length * 14; omega)
      obtain ⟨s11, g11⟩ := hr1.there (k * 14 + 11) (by show _ < l.length * 14; omega)
      obtain ⟨s12, g12⟩ := hr1.there (k * 14 + 12) (by show _ < l.length * 14; omega)
      obtain ⟨s13, g13⟩ := hr1.there (k * 14 + 13) (by show _ < l.length * 14; omega)
      have hf := hr1.fz
      go_wp2
      go_roundw
      case rel => exact ⟨k + 1, _, by omega, by go_num, hr.put hx (List.getElem?_eq_getElem hlt) hown hfr (Put.all _ fun j hj => hr1.there _ (by show _ < l.length * 14; have : j < 14 := hj; show k * 14 + j < _; omega))⟩
      case measure => simp [intOf]; omega
    · obtain rfl : k = l.length := by omega
      go_wp2
      go_ret
      obtain ⟨F, ho, hf⟩ := hr.done (by unfold maxLen; omega)
      exact ⟨_, F, rfl, ho, hf, hr.ext⟩

end Go.Proofs.Ytjemadbhpbbhlaa
