/-
  The laws copy their arguments into fresh memory (to..): what comes back reads as what came in.
-/
import Derived.Test.YtdmbgljkogpmdaaRows
import Derived.Test.YtdmbgljkogpmdaaTy
namespace Go.Proofs.Ytdmbgljkogpmdaa
open Go.RowKit

set_option linter.unusedVariables false
set_option linter.unusedSimpArgs false
set_option maxRecDepth 100000

theorem infInt : (Try.prog.info? 3).map (fun i => (i.zero, i.size, i.bytes)) = some (some (.int .i64 0), 1, 8) := by kernel_rfl
set_option maxHeartbeats 1000000 in
theorem to_ListInt (l : List Int) (v : Value) (w : World) (h : Sl w (Old w) v l) (hn : Bulk.blk l ≤ 1048576) :
    Calls Try.prog 118 #[v] w fun e w' => ∃ r F, e = .returned r ∧ OwnSl w' r l F ∧ Fr w w' F ∧ Ext w w' := by
  obtain ⟨A, c, rfl, hl, hm⟩ := h.form
  unfold maxLen at hm
  have hb := blk_len l
  obtain ⟨i0, hi, hz0, hz1, hz2⟩ := info_parts infInt
  have hmk : ∀ w : World, (Instr.makeSlice 102 (.int .i64 (l.length : Int)) (.int .i64 (l.length : Int))).run Try.prog w = .ok (.slice (some ⟨w.heap.size, 0, none⟩) l.length l.length) (w.alloc (.cells (madeCells _ (l.length * i0.size)) 3)) :=
    fun w => run_make_rowN 102 3 i0 _ Try.underlying102 hi hz0 _ _ l.length l.length (Nat.le_refl _) (by rw [hz2]; omega) (by omega) w
  have HZ := hide hz1
  clear hi hz0 hz1 hz2
  go_enter Try.func118, Try.ntmps118
  go_wp2
  go_loopw [4] (fun i wr => ∃ (k : Nat) (Fs : List (List Nat)), k ≤ l.length ∧ i = .int .i64 k ∧ Row w wr w.heap.size l.length k l Fs) (fun i _ => l.length - (intOf i).toNat)
  case atStart => exact ⟨0, [], by omega, rfl, Row.start _ _ _ _ _ (by rw [size_madeCells, HZ.out]; rfl)⟩
  case round =>
    obtain ⟨k, Fs, hk, rfl, hr⟩ := hrel
    by_cases hlt : k < l.length
    · obtain ⟨b, off, rfl, hbo, hk0, e0⟩ := at_Int (h.ext hr.ext) hlt
      have z0 : (0 : Int) ≤ (k : Int) := by omega
      have z1 : (k : Int) < (l.length : Int) := by omega
      have hx : Ext wr wr := Ext.refl _
      have hown : Own.own wr [.int .i64 (l[k])] l[k] [] := ⟨⟨rfl, hk0⟩, rfl⟩
      have hfr : Fr wr wr [] := Fr.nil _ _
      have hr1 := hr.call hx
      obtain ⟨s0, g0⟩ := hr1.there (k) (by show _ < l.length * 1; omega)
      have hf := hr1.fz
      go_wp2
      go_roundw
      case rel => exact ⟨k + 1, _, by omega, by go_num, hr.put hx (List.getElem?_eq_getElem hlt) hown hfr (by have := Put.one (v := .int .i64 (l[k])) g0; simpa [Rep.sz] using this)⟩
      case measure => simp [intOf]; omega
    · obtain rfl : k = l.length := by omega
      go_wp2
      go_ret
      obtain ⟨F, ho, hf⟩ := hr.done (by unfold maxLen; omega)
      exact ⟨_, F, rfl, ho, hf, hr.ext⟩

set_option maxHeartbeats 1000000 in
theorem to_TrmMono (o : TrmMono) (v1 : Value) (w : World) (hv1 : Sl w (Old w) v1 o.atoms) (hn : Bulk.blk o ≤ 1048576) :
    Calls Try.prog 104 #[.agg #[.int .i64 o.coef, v1]] w fun e w' => ∃ (r1 : Value) (F1 : List Nat), e = .returned (.agg #[.int .i64 o.coef, r1]) ∧ OwnSl w' r1 o.atoms F1 ∧ Fr w w' (F1) ∧ Ext w w' := by
  obtain ⟨Av1, cv1, rfl, -, -⟩ := hv1.form
  have hn1 : Bulk.blk o.atoms ≤ 1048576 := by have : Bulk.blk o = Bulk.blk o.atoms := rfl; omega
  go_enter Try.func104, Try.ntmps104
  go_wp2_with fail
  refine (to_ListInt o.atoms _ _ (hv1.ext (Ext.auto)) hn1).mono ?_
  rintro e w1 ⟨r1, F1, rfl, ho1, hf1, hx1⟩
  obtain ⟨B1, d1, rfl, -, -⟩ := ho1.sl.form
  have hs1 := hx1.size
  try simp at hs1
  have he1 : Ext w w1 := Ext.trans (Ext.auto) hx1
  have hc1 := fun b o (hb : b < w.heap.size + 1 + 1 + 1) => hx1.cell (b := b) (o := o) (by first | omega | (simp; omega))
  have hg1 := fun b o (hb : b < w.heap.size + 1 + 1 + 1) => hx1.frozen (b := b) (o := o) (by first | omega | (simp; omega))
  go_wp2
  refine bodyPost_ret (v := .agg #[.int .i64 o.coef, .slice B1 (o.atoms).length d1]) (by simp [results, Try.results104, go_sem, hc1, hg1]) rfl ⟨_, F1, rfl, ?_, ?_, ?_⟩
  · exact OwnSl.stay ho1 (fun b hb => by
      have q := hf1.2 b (by simp [hb]); have q1 := q.1; have q2 := q.2; simp at q1 q2
      repeat (first | rw [heap_set _ _ _ _ (by simp; omega)]))
  · exact Fr.mk1 hf1 (by first | omega | (simp; done) | (simp; omega)) (by first | omega | (simp; done) | (simp; omega))
  · exact (Ext.hold he1)

theorem infTrmMono : (Try.prog.info? 104).map (fun i => (i.zero, i.size, i.bytes)) = some (some (.agg #[.int .i64 0, .slice none 0 0]), 2, 32) := by kernel_rfl
set_option maxHeartbeats 1000000 in
theorem to_ListTrmMono (l : List TrmMono) (v : Value) (w : World) (h : Sl w (Old w) v l) (hn : Bulk.blk l ≤ 1048576) :
    Calls Try.prog 78 #[v] w fun e w' => ∃ r F, e = .returned r ∧ OwnSl w' r l F ∧ Fr w w' F ∧ Ext w w' := by
  obtain ⟨A, c, rfl, hl, hm⟩ := h.form
  unfold maxLen at hm
  have hb := blk_len l
  obtain ⟨i0, hi, hz0, hz1, hz2⟩ := info_parts infTrmMono
  have hmk : ∀ w : World, (Instr.makeSlice 46 (.int .i64 (l.length : Int)) (.int .i64 (l.length : Int))).run Try.prog w = .ok (.slice (some ⟨w.heap.size, 0, none⟩) l.length l.length) (w.alloc (.cells (madeCells _ (l.length * i0.size)) 104)) :=
    fun w => run_make_rowN 46 104 i0 _ Try.underlying46 hi hz0 _ _ l.length l.length (Nat.le_refl _) (by rw [hz2]; omega) (by omega) w
  have HZ := hide hz1
  clear hi hz0 hz1 hz2
  go_enter Try.func78, Try.ntmps78
  go_wp2
  go_loopw [4] (fun i wr => ∃ (k : Nat) (Fs : List (List Nat)), k ≤ l.length ∧ i = .int .i64 k ∧ Row w wr w.heap.size l.length k l Fs) (fun i _ => l.length - (intOf i).toNat)
  case atStart => exact ⟨0, [], by omega, rfl, Row.start _ _ _ _ _ (by rw [size_madeCells, HZ.out]; rfl)⟩
  case round =>
    obtain ⟨k, Fs, hk, rfl, hr⟩ := hrel
    by_cases hlt : k < l.length
    · obtain ⟨b, off, v1, rfl, hbo, hk0, hv1, e0, e1⟩ := at_TrmMono (h.ext hr.ext) hlt
      have z0 : (0 : Int) ≤ (k : Int) := by omega
      have z1 : (k : Int) < (l.length : Int) := by omega
      have hbk := blk_el l k hlt
      go_wp2_with fail
      refine (to_TrmMono l[k] _ _ hv1 (by omega)).mono ?_
      rintro e w1 ⟨r1, F1, rfl, ho1, hfr, hx⟩
      have hown : Own.own w1 [.int .i64 (l[k].coef), r1] l[k] (F1) := ⟨r1, rfl, hk0, ho1⟩
      obtain ⟨B1, d1, rfl, -, -⟩ := ho1.sl.form
      have hr1 := hr.call hx
      obtain ⟨s0, g0⟩ := hr1.there (k * 2) (by show _ < l.length * 2; omega)
      obtain ⟨s1, g1⟩ := hr1.there (k * 2 + 1) (by show _ < l.length * 2; omega)
      have hf := hr1.fz
      go_wp2
      go_roundw
      case rel => exact ⟨k + 1, _, by omega, by go_num, hr.put hx (List.getElem?_eq_getElem hlt) hown hfr (Put.all _ fun j hj => hr1.there _ (by show _ < l.length * 2; have : j < 2 := hj; show k * 2 + j < _; omega))⟩
      case measure => simp [intOf]; omega
    · obtain rfl : k = l.length := by omega
      go_wp2
      go_ret
      obtain ⟨F, ho, hf⟩ := hr.done (by unfold maxLen; omega)
      exact ⟨_, F, rfl, ho, hf, hr.ext⟩

set_option maxHeartbeats 1000000 in
theorem to_TrmPoly (o : TrmPoly) (v1 : Value) (w : World) (hv1 : Sl w (Old w) v1 o.monos) (hn : Bulk.blk o ≤ 1048576) :
    Calls Try.prog 44 #[.agg #[v1]] w fun e w' => ∃ (r1 : Value) (F1 : List Nat), e = .returned (.agg #[r1]) ∧ OwnSl w' r1 o.monos F1 ∧ Fr w w' (F1) ∧ Ext w w' := by
  obtain ⟨Av1, cv1, rfl, -, -⟩ := hv1.form
  have hn1 : Bulk.blk o.monos ≤ 1048576 := by have : Bulk.blk o = Bulk.blk o.monos := rfl; omega
  go_enter Try.func44, Try.ntmps44
  go_wp2_with fail
  refine (to_ListTrmMono o.monos _ _ (hv1.ext (Ext.auto)) hn1).mono ?_
  rintro e w1 ⟨r1, F1, rfl, ho1, hf1, hx1⟩
  obtain ⟨B1, d1, rfl, -, -⟩ := ho1.sl.form
  have hs1 := hx1.size
  try simp at hs1
  have he1 : Ext w w1 := Ext.trans (Ext.auto) hx1
  have hc1 := fun b o (hb : b < w.heap.size + 1 + 1 + 1) => hx1.cell (b := b) (o := o) (by first | omega | (simp; omega))
  have hg1 := fun b o (hb : b < w.heap.size + 1 + 1 + 1) => hx1.frozen (b := b) (o := o) (by first | omega | (simp; omega))
  go_wp2
  refine bodyPost_ret (v := .agg #[.slice B1 (o.monos).length d1]) (by simp [results, Try.results44, go_sem, hc1, hg1]) rfl ⟨_, F1, rfl, ?_, ?_, ?_⟩
  · exact OwnSl.stay ho1 (fun b hb => by
      have q := hf1.2 b (by simp [hb]); have q1 := q.1; have q2 := q.2; simp at q1 q2
      repeat (first | rw [heap_set _ _ _ _ (by simp; omega)]))
  · exact Fr.mk1 hf1 (by first | omega | (simp; done) | (simp; omega)) (by first | omega | (simp; done) | (simp; omega))
  · exact (Ext.hold he1)

theorem infTrmPoly : (Try.prog.info? 48).map (fun i => (i.zero, i.size, i.bytes)) = some (some (.agg #[.slice none 0 0]), 1, 24) := by kernel_rfl
set_option maxHeartbeats 1000000 in
theorem to_ListTrmPoly (l : List TrmPoly) (v : Value) (w : World) (h : Sl w (Old w) v l) (hn : Bulk.blk l ≤ 1048576) :
    Calls Try.prog 57 #[v] w fun e w' => ∃ r F, e = .returned r ∧ OwnSl w' r l F ∧ Fr w w' F ∧ Ext w w' := by
  obtain ⟨A, c, rfl, hl, hm⟩ := h.form
  unfold maxLen at hm
  have hb := blk_len l
  obtain ⟨i0, hi, hz0, hz1, hz2⟩ := info_parts infTrmPoly
  have hmk : ∀ w : World, (Instr.makeSlice 25 (.int .i64 (l.length : Int)) (.int .i64 (l.length : Int))).run Try.prog w = .ok (.slice (some ⟨w.heap.size, 0, none⟩) l.length l.length) (w.alloc (.cells (madeCells _ (l.length * i0.size)) 48)) :=
    fun w => run_make_rowN 25 48 i0 _ Try.underlying25 hi hz0 _ _ l.length l.length (Nat.le_refl _) (by rw [hz2]; omega) (by omega) w
  have HZ := hide hz1
  clear hi hz0 hz1 hz2
  go_enter Try.func57, Try.ntmps57
  go_wp2
  go_loopw [4] (fun i wr => ∃ (k : Nat) (Fs : List (List Nat)), k ≤ l.length ∧ i = .int .i64 k ∧ Row w wr w.heap.size l.length k l Fs) (fun i _ => l.length - (intOf i).toNat)
  case atStart => exact ⟨0, [], by omega, rfl, Row.start _ _ _ _ _ (by rw [size_madeCells, HZ.out]; rfl)⟩
  case round =>
    obtain ⟨k, Fs, hk, rfl, hr⟩ := hrel
    by_cases hlt : k < l.length
    · obtain ⟨b, off, v1, rfl, hbo, hk0, hv1, e0⟩ := at_TrmPoly (h.ext hr.ext) hlt
      have z0 : (0 : Int) ≤ (k : Int) := by omega
      have z1 : (k : Int) < (l.length : Int) := by omega
      have hbk := blk_el l k hlt
      go_wp2_with fail
      refine (to_TrmPoly l[k] _ _ hv1 (by omega)).mono ?_
      rintro e w1 ⟨r1, F1, rfl, ho1, hfr, hx⟩
      have hown : Own.own w1 [r1] l[k] (F1) := ⟨r1, rfl, hk0, ho1⟩
      obtain ⟨B1, d1, rfl, -, -⟩ := ho1.sl.form
      have hr1 := hr.call hx
      obtain ⟨s0, g0⟩ := hr1.there (k) (by show _ < l.length * 1; omega)
      have hf := hr1.fz
      go_wp2
      go_roundw
      case rel => exact ⟨k + 1, _, by omega, by go_num, hr.put hx (List.getElem?_eq_getElem hlt) hown hfr (by have := Put.all (o := k) [(.slice B1 (l[k].monos).length d1)] (w := w1) (fun j hj => hr1.there _ (by show _ < l.length * 1; have : j < 1 := hj; omega)); simpa [Rep.sz, putAll] using this)⟩
      case measure => simp [intOf]; omega
    · obtain rfl : k = l.length := by omega
      go_wp2
      go_ret
      obtain ⟨F, ho, hf⟩ := hr.done (by unfold maxLen; omega)
      exact ⟨_, F, rfl, ho, hf, hr.ext⟩

set_option maxHeartbeats 1000000 in
theorem to_TabAtom (o : TabAtom) (v1 v2 : Value) (w : World) (hv1 : Sl w (Old w) v1 o.x.monos) (hv2 : Sl w (Old w) v2 o.y.monos) (hn : Bulk.blk o ≤ 1048576) :
    Calls Try.prog 18 #[.agg #[.int .i64 o.kind, .int .i64 o.k, v1, v2]] w fun e w' => ∃ (r1 r2 : Value) (F1 F2 : List Nat), e = .returned (.agg #[.int .i64 o.kind, .int .i64 o.k, r1, r2]) ∧ OwnSl w' r1 o.x.monos F1 ∧ OwnSl w' r2 o.y.monos F2 ∧ Fr w w' (F1 ++ F2) ∧ Ext w w' := by
  obtain ⟨Av1, cv1, rfl, -, -⟩ := hv1.form
  obtain ⟨Av2, cv2, rfl, -, -⟩ := hv2.form
  have hn1 : Bulk.blk o.x ≤ 1048576 := by have : Bulk.blk o = Bulk.blk o.x + Bulk.blk o.y := rfl; omega
  have hn2 : Bulk.blk o.y ≤ 1048576 := by have : Bulk.blk o = Bulk.blk o.x + Bulk.blk o.y := rfl; omega
  go_enter Try.func18, Try.ntmps18
  go_wp2_with fail
  refine (to_TrmPoly o.x _ _ (hv1.ext (Ext.auto)) hn1).mono ?_
  rintro e w1 ⟨r1, F1, rfl, ho1, hf1, hx1⟩
  obtain ⟨B1, d1, rfl, -, -⟩ := ho1.sl.form
  have hs1 := hx1.size
  try simp at hs1
  have he1 : Ext w w1 := Ext.trans (Ext.auto) hx1
  have hc1 := fun b o (hb : b < w.heap.size + 1 + 1 + 1) => hx1.cell (b := b) (o := o) (by first | omega | (simp; omega))
  have hg1 := fun b o (hb : b < w.heap.size + 1 + 1 + 1) => hx1.frozen (b := b) (o := o) (by first | omega | (simp; omega))
  go_wp2_with fail
  refine (to_TrmPoly o.y _ _ (hv2.ext (Ext.hold he1)) hn2).mono ?_
  rintro e w2 ⟨r2, F2, rfl, ho2, hf2, hx2⟩
  obtain ⟨B2, d2, rfl, -, -⟩ := ho2.sl.form
  have hs2 := hx2.size
  try simp at hs2
  have he2 : Ext w w2 := Ext.trans (Ext.hold he1) hx2
  have hc2 := fun b o (hb : b < w.heap.size + 1 + 1 + 1) => hx2.cell (b := b) (o := o) (by first | omega | (simp; omega))
  have hg2 := fun b o (hb : b < w.heap.size + 1 + 1 + 1) => hx2.frozen (b := b) (o := o) (by first | omega | (simp; omega))
  go_wp2
  refine bodyPost_ret (v := .agg #[.int .i64 o.kind, .int .i64 o.k, .slice B1 (o.x.monos).length d1, .slice B2 (o.y.monos).length d2]) (by simp [results, Try.results18, go_sem, hc1, hg1, hc2, hg2]) rfl ⟨_, _, F1, F2, rfl, ?_, ?_, ?_, ?_⟩
  · exact OwnSl.stay ho1 (fun b hb => by
      have q := hf1.2 b (by simp [hb]); have q1 := q.1; have q2 := q.2; simp at q1 q2
      repeat (first | rw [heap_set _ _ _ _ (by simp; omega)] | rw [Ext.heap hx2 (by simp; omega)]))
  · exact OwnSl.stay ho2 (fun b hb => by
      have q := hf2.2 b (by simp [hb]); have q1 := q.1; have q2 := q.2; simp at q1 q2
      repeat (first | rw [heap_set _ _ _ _ (by simp; omega)]))
  · first | exact (Fr.mk2 hf1 hf2 (by first | omega | (simp; done) | (simp; omega)) (by first | omega | (simp; done) | (simp; omega)) (by first | omega | (simp; done) | (simp; omega)) (by first | omega | (simp; done) | (simp; omega)) (by first | omega | (simp; done) | (simp; omega))) | (simp only [List.append_assoc]; have H := (Fr.mk2 hf1 hf2 (by first | omega | (simp; done) | (simp; omega)) (by first | omega | (simp; done) | (simp; omega)) (by first | omega | (simp; done) | (simp; omega)) (by first | omega | (simp; done) | (simp; omega)) (by first | omega | (simp; done) | (simp; omega))); simpa only [List.append_assoc] using H)
  · exact (Ext.hold2 he2 he1)

theorem infTabAtom : (Try.prog.info? 50).map (fun i => (i.zero, i.size, i.bytes)) = some (some (.agg #[.int .i64 0, .int .i64 0, .slice none 0 0, .slice none 0 0]), 4, 64) := by kernel_rfl
set_option maxHeartbeats 1000000 in
theorem to_ListTabAtom (l : List TabAtom) (v : Value) (w : World) (h : Sl w (Old w) v l) (hn : Bulk.blk l ≤ 1048576) :
    Calls Try.prog 43 #[v] w fun e w' => ∃ r F, e = .returned r ∧ OwnSl w' r l F ∧ Fr w w' F ∧ Ext w w' := by
  obtain ⟨A, c, rfl, hl, hm⟩ := h.form
  unfold maxLen at hm
  have hb := blk_len l
  obtain ⟨i0, hi, hz0, hz1, hz2⟩ := info_parts infTabAtom
  have hmk : ∀ w : World, (Instr.makeSlice 22 (.int .i64 (l.length : Int)) (.int .i64 (l.length : Int))).run Try.prog w = .ok (.slice (some ⟨w.heap.size, 0, none⟩) l.length l.length) (w.alloc (.cells (madeCells _ (l.length * i0.size)) 50)) :=
    fun w => run_make_rowN 22 50 i0 _ Try.underlying22 hi hz0 _ _ l.length l.length (Nat.le_refl _) (by rw [hz2]; omega) (by omega) w
  have HZ := hide hz1
  clear hi hz0 hz1 hz2
  go_enter Try.func43, Try.ntmps43
  go_wp2
  go_loopw [4] (fun i wr => ∃ (k : Nat) (Fs : List (List Nat)), k ≤ l.length ∧ i = .int .i64 k ∧ Row w wr w.heap.size l.length k l Fs) (fun i _ => l.length - (intOf i).toNat)
  case atStart => exact ⟨0, [], by omega, rfl, Row.start _ _ _ _ _ (by rw [size_madeCells, HZ.out]; rfl)⟩
  case round =>
    obtain ⟨k, Fs, hk, rfl, hr⟩ := hrel
    by_cases hlt : k < l.length
    · obtain ⟨b, off, v1, v2, rfl, hbo, hk0, hv1, hv2, e0, e1, e2, e3⟩ := at_TabAtom (h.ext hr.ext) hlt
      have z0 : (0 : Int) ≤ (k : Int) := by omega
      have z1 : (k : Int) < (l.length : Int) := by omega
      have hbk := blk_el l k hlt
      go_wp2_with fail
      refine (to_TabAtom l[k] _ _ _ hv1 hv2 (by omega)).mono ?_
      rintro e w1 ⟨r1, r2, F1, F2, rfl, ho1, ho2, hfr, hx⟩
      have hown : Own.own w1 [.int .i64 (l[k].kind), .int .i64 (l[k].k), r1, r2] l[k] (F1 ++ F2) := ⟨r1, r2, F1, F2, rfl, hk0, ho1, ho2, rfl⟩
      obtain ⟨B1, d1, rfl, -, -⟩ := ho1.sl.form
      obtain ⟨B2, d2, rfl, -, -⟩ := ho2.sl.form
      have hr1 := hr.call hx
      obtain ⟨s0, g0⟩ := hr1.there (k * 4) (by show _ < l.length * 4; omega)
      obtain ⟨s1, g1⟩ := hr1.there (k * 4 + 1) (by show _ < l.length * 4; omega)
      obtain ⟨s2, g2⟩ := hr1.there (k * 4 + 2) (by show _ < l.length * 4; omega)
      obtain ⟨s3, g3⟩ := hr1.there (k * 4 + 3) (by show _ < l.length * 4; omega)
      have hf := hr1.fz
      go_wp2
      go_roundw
      case rel => exact ⟨k + 1, _, by omega, by go_num, hr.put hx (List.getElem?_eq_getElem hlt) hown hfr (Put.all _ fun j hj => hr1.there _ (by show _ < l.length * 4; have : j < 4 := hj; show k * 4 + j < _; omega))⟩
      case measure => simp [intOf]; omega
    · obtain rfl : k = l.length := by omega
      go_wp2
      go_ret
      obtain ⟨F, ho, hf⟩ := hr.done (by unfold maxLen; omega)
      exact ⟨_, F, rfl, ho, hf, hr.ext⟩

set_option maxHeartbeats 1000000 in
theorem to_TabTab (o : TabTab) (v1 : Value) (w : World) (hv1 : Sl w (Old w) v1 o.atoms) (hn : Bulk.blk o ≤ 1048576) :
    Calls Try.prog 17 #[.agg #[v1]] w fun e w' => ∃ (r1 : Value) (F1 : List Nat), e = .returned (.agg #[r1]) ∧ OwnSl w' r1 o.atoms F1 ∧ Fr w w' (F1) ∧ Ext w w' := by
  obtain ⟨Av1, cv1, rfl, -, -⟩ := hv1.form
  have hn1 : Bulk.blk o.atoms ≤ 1048576 := by have : Bulk.blk o = Bulk.blk o.atoms := rfl; omega
  go_enter Try.func17, Try.ntmps17
  go_wp2_with fail
  refine (to_ListTabAtom o.atoms _ _ (hv1.ext (Ext.auto)) hn1).mono ?_
  rintro e w1 ⟨r1, F1, rfl, ho1, hf1, hx1⟩
  obtain ⟨B1, d1, rfl, -, -⟩ := ho1.sl.form
  have hs1 := hx1.size
  try simp at hs1
  have he1 : Ext w w1 := Ext.trans (Ext.auto) hx1
  have hc1 := fun b o (hb : b < w.heap.size + 1 + 1 + 1) => hx1.cell (b := b) (o := o) (by first | omega | (simp; omega))
  have hg1 := fun b o (hb : b < w.heap.size + 1 + 1 + 1) => hx1.frozen (b := b) (o := o) (by first | omega | (simp; omega))
  go_wp2
  refine bodyPost_ret (v := .agg #[.slice B1 (o.atoms).length d1]) (by simp [results, Try.results17, go_sem, hc1, hg1]) rfl ⟨_, F1, rfl, ?_, ?_, ?_⟩
  · exact OwnSl.stay ho1 (fun b hb => by
      have q := hf1.2 b (by simp [hb]); have q1 := q.1; have q2 := q.2; simp at q1 q2
      repeat (first | rw [heap_set _ _ _ _ (by simp; omega)]))
  · exact Fr.mk1 hf1 (by first | omega | (simp; done) | (simp; omega)) (by first | omega | (simp; done) | (simp; omega))
  · exact (Ext.hold he1)

set_option maxHeartbeats 1000000 in
theorem to_SymEvent (o : SymEvent) (v1 v2 v3 : Value) (w : World) (hv1 : Sl w (Old w) v1 o.x.monos) (hv2 : Sl w (Old w) v2 o.y.monos) (hv3 : Sl w (Old w) v3 o.regs) (hn : Bulk.blk o ≤ 1048576) :
    Calls Try.prog 86 #[.agg #[.int .i64 o.kind, .int .i64 o.at_, v1, v2, v3]] w fun e w' => ∃ (r1 r2 r3 : Value) (F1 F2 F3 : List Nat), e = .returned (.agg #[.int .i64 o.kind, .int .i64 o.at_, r1, r2, r3]) ∧ OwnSl w' r1 o.x.monos F1 ∧ OwnSl w' r2 o.y.monos F2 ∧ OwnSl w' r3 o.regs F3 ∧ Fr w w' (F1 ++ F2 ++ F3) ∧ Ext w w' := by
  obtain ⟨Av1, cv1, rfl, -, -⟩ := hv1.form
  obtain ⟨Av2, cv2, rfl, -, -⟩ := hv2.form
  obtain ⟨Av3, cv3, rfl, -, -⟩ := hv3.form
  have hn1 : Bulk.blk o.x ≤ 1048576 := by have : Bulk.blk o = Bulk.blk o.x + Bulk.blk o.y + Bulk.blk o.regs := rfl; omega
  have hn2 : Bulk.blk o.y ≤ 1048576 := by have : Bulk.blk o = Bulk.blk o.x + Bulk.blk o.y + Bulk.blk o.regs := rfl; omega
  have hn3 : Bulk.blk o.regs ≤ 1048576 := by have : Bulk.blk o = Bulk.blk o.x + Bulk.blk o.y + Bulk.blk o.regs := rfl; omega
  go_enter Try.func86, Try.ntmps86
  go_wp2_with fail
  refine (to_TrmPoly o.x _ _ (hv1.ext (Ext.auto)) hn1).mono ?_
  rintro e w1 ⟨r1, F1, rfl, ho1, hf1, hx1⟩
  obtain ⟨B1, d1, rfl, -, -⟩ := ho1.sl.form
  have hs1 := hx1.size
  try simp at hs1
  have he1 : Ext w w1 := Ext.trans (Ext.auto) hx1
  have hc1 := fun b o (hb : b < w.heap.size + 1 + 1 + 1) => hx1.cell (b := b) (o := o) (by first | omega | (simp; omega))
  have hg1 := fun b o (hb : b < w.heap.size + 1 + 1 + 1) => hx1.frozen (b := b) (o := o) (by first | omega | (simp; omega))
  go_wp2_with fail
  refine (to_TrmPoly o.y _ _ (hv2.ext (Ext.hold he1)) hn2).mono ?_
  rintro e w2 ⟨r2, F2, rfl, ho2, hf2, hx2⟩
  obtain ⟨B2, d2, rfl, -, -⟩ := ho2.sl.form
  have hs2 := hx2.size
  try simp at hs2
  have he2 : Ext w w2 := Ext.trans (Ext.hold he1) hx2
  have hc2 := fun b o (hb : b < w.heap.size + 1 + 1 + 1) => hx2.cell (b := b) (o := o) (by first | omega | (simp; omega))
  have hg2 := fun b o (hb : b < w.heap.size + 1 + 1 + 1) => hx2.frozen (b := b) (o := o) (by first | omega | (simp; omega))
  go_wp2_with fail
  refine (to_ListTrmPoly o.regs _ _ (hv3.ext (Ext.hold2 he2 he1)) hn3).mono ?_
  rintro e w3 ⟨r3, F3, rfl, ho3, hf3, hx3⟩
  obtain ⟨B3, d3, rfl, -, -⟩ := ho3.sl.form
  have hs3 := hx3.size
  try simp at hs3
  have he3 : Ext w w3 := Ext.trans (Ext.hold2 he2 he1) hx3
  have hc3 := fun b o (hb : b < w.heap.size + 1 + 1 + 1) => hx3.cell (b := b) (o := o) (by first | omega | (simp; omega))
  have hg3 := fun b o (hb : b < w.heap.size + 1 + 1 + 1) => hx3.frozen (b := b) (o := o) (by first | omega | (simp; omega))
  go_wp2
  refine bodyPost_ret (v := .agg #[.int .i64 o.kind, .int .i64 o.at_, .slice B1 (o.x.monos).length d1, .slice B2 (o.y.monos).length d2, .slice B3 (o.regs).length d3]) (by simp [results, Try.results86, go_sem, hc1, hg1, hc2, hg2, hc3, hg3]) rfl ⟨_, _, _, F1, F2, F3, rfl, ?_, ?_, ?_, ?_, ?_⟩
  · exact OwnSl.stay ho1 (fun b hb => by
      have q := hf1.2 b (by simp [hb]); have q1 := q.1; have q2 := q.2; simp at q1 q2
      repeat (first | rw [heap_set _ _ _ _ (by simp; omega)] | rw [Ext.heap hx2 (by simp; omega)] | rw [Ext.heap hx3 (by simp; omega)]))
  · exact OwnSl.stay ho2 (fun b hb => by
      have q := hf2.2 b (by simp [hb]); have q1 := q.1; have q2 := q.2; simp at q1 q2
      repeat (first | rw [heap_set _ _ _ _ (by simp; omega)] | rw [Ext.heap hx3 (by simp; omega)]))
  · exact OwnSl.stay ho3 (fun b hb => by
      have q := hf3.2 b (by simp [hb]); have q1 := q.1; have q2 := q.2; simp at q1 q2
      repeat (first | rw [heap_set _ _ _ _ (by simp; omega)]))
  · first | exact (Fr.mk2 (Fr.mk2 (w := w) (w' := w2) hf1 hf2 (by first | omega | (simp; done) | (simp; omega)) (by first | omega | (simp; done) | (simp; omega)) (by first | omega | (simp; done) | (simp; omega)) (by first | omega | (simp; done) | (simp; omega)) (by first | omega | (simp; done) | (simp; omega))) hf3 (by first | omega | (simp; done) | (simp; omega)) (by first | omega | (simp; done) | (simp; omega)) (by first | omega | (simp; done) | (simp; omega)) (by first | omega | (simp; done) | (simp; omega)) (by first | omega | (simp; done) | (simp; omega))) | (simp only [List.append_assoc]; have H := (Fr.mk2 (Fr.mk2 (w := w) (w' := w2) hf1 hf2 (by first | omega | (simp; done) | (simp; omega)) (by first | omega | (simp; done) | (simp; omega)) (by first | omega | (simp; done) | (simp; omega)) (by first | omega | (simp; done) | (simp; omega)) (by first | omega | (simp; done) | (simp; omega))) hf3 (by first | omega | (simp; done) | (simp; omega)) (by first | omega | (simp; done) | (simp; omega)) (by first | omega | (simp; done) | (simp; omega)) (by first | omega | (simp; done) | (simp; omega)) (by first | omega | (simp; done) | (simp; omega))); simpa only [List.append_assoc] using H)
  · exact (by (repeat' (first | (with_reducible exact Ext.refl _) | (with_reducible exact he3) | (with_reducible exact he2) | (with_reducible exact he1) | (with_reducible apply Ext.alloc) | (with_reducible apply Ext.drew) | (with_reducible refine Ext.setCell ?_ ?_ _))); all_goals (first | (simp; done) | (simp; omega) | omega))

theorem infSymEvent : (Try.prog.info? 90).map (fun i => (i.zero, i.size, i.bytes)) = some (some (.agg #[.int .i64 0, .int .i64 0, .slice none 0 0, .slice none 0 0, .slice none 0 0]), 5, 88) := by kernel_rfl
set_option maxHeartbeats 1000000 in
theorem to_ListSymEvent (l : List SymEvent) (v : Value) (w : World) (h : Sl w (Old w) v l) (hn : Bulk.blk l ≤ 1048576) :
    Calls Try.prog 56 #[v] w fun e w' => ∃ r F, e = .returned r ∧ OwnSl w' r l F ∧ Fr w w' F ∧ Ext w w' := by
  obtain ⟨A, c, rfl, hl, hm⟩ := h.form
  unfold maxLen at hm
  have hb := blk_len l
  obtain ⟨i0, hi, hz0, hz1, hz2⟩ := info_parts infSymEvent
  have hmk : ∀ w : World, (Instr.makeSlice 60 (.int .i64 (l.length : Int)) (.int .i64 (l.length : Int))).run Try.prog w = .ok (.slice (some ⟨w.heap.size, 0, none⟩) l.length l.length) (w.alloc (.cells (madeCells _ (l.length * i0.size)) 90)) :=
    fun w => run_make_rowN 60 90 i0 _ Try.underlying60 hi hz0 _ _ l.length l.length (Nat.le_refl _) (by rw [hz2]; omega) (by omega) w
  have HZ := hide hz1
  clear hi hz0 hz1 hz2
  go_enter Try.func56, Try.ntmps56
  go_wp2
  go_loopw [4] (fun i wr => ∃ (k : Nat) (Fs : List (List Nat)), k ≤ l.length ∧ i = .int .i64 k ∧ Row w wr w.heap.size l.length k l Fs) (fun i _ => l.length - (intOf i).toNat)
  case atStart => exact ⟨0, [], by omega, rfl, Row.start _ _ _ _ _ (by rw [size_madeCells, HZ.out]; rfl)⟩
  case round =>
    obtain ⟨k, Fs, hk, rfl, hr⟩ := hrel
    by_cases hlt : k < l.length
    · obtain ⟨b, off, v1, v2, v3, rfl, hbo, hk0, hv1, hv2, hv3, e0, e1, e2, e3, e4⟩ := at_SymEvent (h.ext hr.ext) hlt
      have z0 : (0 : Int) ≤ (k : Int) := by omega
      have z1 : (k : Int) < (l.length : Int) := by omega
      have hbk := blk_el l k hlt
      go_wp2_with fail
      refine (to_SymEvent l[k] _ _ _ _ hv1 hv2 hv3 (by omega)).mono ?_
      rintro e w1 ⟨r1, r2, r3, F1, F2, F3, rfl, ho1, ho2, ho3, hfr, hx⟩
      have hown : Own.own w1 [.int .i64 (l[k].kind), .int .i64 (l[k].at_), r1, r2, r3] l[k] (F1 ++ F2 ++ F3) := ⟨r1, r2, r3, F1, F2, F3, rfl, hk0, ho1, ho2, ho3, rfl⟩
      obtain ⟨B1, d1, rfl, -, -⟩ := ho1.sl.form
      obtain ⟨B2, d2, rfl, -, -⟩ := ho2.sl.form
      obtain ⟨B3, d3, rfl, -, -⟩ := ho3.sl.form
      have hr1 := hr.call hx
      obtain ⟨s0, g0⟩ := hr1.there (k * 5) (by show _ < l.length * 5; omega)
      obtain ⟨s1, g1⟩ := hr1.there (k * 5 + 1) (by show _ < l.length * 5; omega)
      obtain ⟨s2, g2⟩ := hr1.there (k * 5 + 2) (by show _ < l.length * 5; omega)
      obtain ⟨s3, g3⟩ := hr1.there (k * 5 + 3) (by show _ < l.length * 5; omega)
      obtain ⟨s4, g4⟩ := hr1.there (k * 5 + 4) (by show _ < l.length * 5; omega)
      have hf := hr1.fz
      go_wp2
      go_roundw
      case rel => exact ⟨k + 1, _, by omega, by go_num, hr.put hx (List.getElem?_eq_getElem hlt) hown hfr (Put.all _ fun j hj => hr1.there _ (by show _ < l.length * 5; have : j < 5 := hj; show k * 5 + j < _; omega))⟩
      case measure => simp [intOf]; omega
    · obtain rfl : k = l.length := by omega
      go_wp2
      go_ret
      obtain ⟨F, ho, hf⟩ := hr.done (by unfold maxLen; omega)
      exact ⟨_, F, rfl, ho, hf, hr.ext⟩

set_option maxHeartbeats 1000000 in
theorem to_SymSym (o : SymSym) (v1 v2 v3 v4 : Value) (w : World) (hv1 : Sl w (Old w) v1 o.events) (hv2 : Sl w (Old w) v2 o.regs) (hv3 : Sl w (Old w) v3 o.x.monos) (hv4 : Sl w (Old w) v4 o.y.monos) (hn : Bulk.blk o ≤ 1048576) :
    Calls Try.prog 24 #[.agg #[v1, v2, .int .i64 o.fin, v3, v4, .int .i64 o.k]] w fun e w' => ∃ (r1 r2 r3 r4 : Value) (F1 F2 F3 F4 : List Nat), e = .returned (.agg #[r1, r2, .int .i64 o.fin, r3, r4, .int .i64 o.k]) ∧ OwnSl w' r1 o.events F1 ∧ OwnSl w' r2 o.regs F2 ∧ OwnSl w' r3 o.x.monos F3 ∧ OwnSl w' r4 o.y.monos F4 ∧ Fr w w' (F1 ++ F2 ++ F3 ++ F4) ∧ Ext w w' := by
  obtain ⟨Av1, cv1, rfl, -, -⟩ := hv1.form
  obtain ⟨Av2, cv2, rfl, -, -⟩ := hv2.form
  obtain ⟨Av3, cv3, rfl, -, -⟩ := hv3.form
  obtain ⟨Av4, cv4, rfl, -, -⟩ := hv4.form
  have hn1 : Bulk.blk o.events ≤ 1048576 := by have : Bulk.blk o = Bulk.blk o.events + Bulk.blk o.regs + Bulk.blk o.x + Bulk.blk o.y := rfl; omega
  have hn2 : Bulk.blk o.regs ≤ 1048576 := by have : Bulk.blk o = Bulk.blk o.events + Bulk.blk o.regs + Bulk.blk o.x + Bulk.blk o.y := rfl; omega
  have hn3 : Bulk.blk o.x ≤ 1048576 := by have : Bulk.blk o = Bulk.blk o.events + Bulk.blk o.regs + Bulk.blk o.x + Bulk.blk o.y := rfl; omega
  have hn4 : Bulk.blk o.y ≤ 1048576 := by have : Bulk.blk o = Bulk.blk o.events + Bulk.blk o.regs + Bulk.blk o.x + Bulk.blk o.y := rfl; omega
  go_enter Try.func24, Try.ntmps24
  go_wp2_with fail
  refine (to_ListSymEvent o.events _ _ (hv1.ext (Ext.auto)) hn1).mono ?_
  rintro e w1 ⟨r1, F1, rfl, ho1, hf1, hx1⟩
  obtain ⟨B1, d1, rfl, -, -⟩ := ho1.sl.form
  have hs1 := hx1.size
  try simp at hs1
  have he1 : Ext w w1 := Ext.trans (Ext.auto) hx1
  have hc1 := fun b o (hb : b < w.heap.size + 1 + 1 + 1) => hx1.cell (b := b) (o := o) (by first | omega | (simp; omega))
  have hg1 := fun b o (hb : b < w.heap.size + 1 + 1 + 1) => hx1.frozen (b := b) (o := o) (by first | omega | (simp; omega))
  go_wp2_with fail
  refine (to_ListTrmPoly o.regs _ _ (hv2.ext (Ext.hold he1)) hn2).mono ?_
  rintro e w2 ⟨r2, F2, rfl, ho2, hf2, hx2⟩
  obtain ⟨B2, d2, rfl, -, -⟩ := ho2.sl.form
  have hs2 := hx2.size
  try simp at hs2
  have he2 : Ext w w2 := Ext.trans (Ext.hold he1) hx2
  have hc2 := fun b o (hb : b < w.heap.size + 1 + 1 + 1) => hx2.cell (b := b) (o := o) (by first | omega | (simp; omega))
  have hg2 := fun b o (hb : b < w.heap.size + 1 + 1 + 1) => hx2.frozen (b := b) (o := o) (by first | omega | (simp; omega))
  go_wp2_with fail
  refine (to_TrmPoly o.x _ _ (hv3.ext (Ext.hold2 he2 he1)) hn3).mono ?_
  rintro e w3 ⟨r3, F3, rfl, ho3, hf3, hx3⟩
  obtain ⟨B3, d3, rfl, -, -⟩ := ho3.sl.form
  have hs3 := hx3.size
  try simp at hs3
  have he3 : Ext w w3 := Ext.trans (Ext.hold2 he2 he1) hx3
  have hc3 := fun b o (hb : b < w.heap.size + 1 + 1 + 1) => hx3.cell (b := b) (o := o) (by first | omega | (simp; omega))
  have hg3 := fun b o (hb : b < w.heap.size + 1 + 1 + 1) => hx3.frozen (b := b) (o := o) (by first | omega | (simp; omega))
  go_wp2_with fail
  refine (to_TrmPoly o.y _ _ (hv4.ext (by (repeat' (first | (with_reducible exact Ext.refl _) | (with_reducible exact he3) | (with_reducible exact he2) | (with_reducible exact he1) | (with_reducible apply Ext.alloc) | (with_reducible apply Ext.drew) | (with_reducible refine Ext.setCell ?_ ?_ _))); all_goals (first | (simp; done) | (simp; omega) | omega))) hn4).mono ?_
  rintro e w4 ⟨r4, F4, rfl, ho4, hf4, hx4⟩
  obtain ⟨B4, d4, rfl, -, -⟩ := ho4.sl.form
  have hs4 := hx4.size
  try simp at hs4
  have he4 : Ext w w4 := Ext.trans (by (repeat' (first | (with_reducible exact Ext.refl _) | (with_reducible exact he3) | (with_reducible exact he2) | (with_reducible exact he1) | (with_reducible apply Ext.alloc) | (with_reducible apply Ext.drew) | (with_reducible refine Ext.setCell ?_ ?_ _))); all_goals (first | (simp; done) | (simp; omega) | omega)) hx4
  have hc4 := fun b o (hb : b < w.heap.size + 1 + 1 + 1) => hx4.cell (b := b) (o := o) (by first | omega | (simp; omega))
  have hg4 := fun b o (hb : b < w.heap.size + 1 + 1 + 1) => hx4.frozen (b := b) (o := o) (by first | omega | (simp; omega))
  go_wp2
  refine bodyPost_ret (v := .agg #[.slice B1 (o.events).length d1, .slice B2 (o.regs).length d2, .int .i64 o.fin, .slice B3 (o.x.monos).length d3, .slice B4 (o.y.monos).length d4, .int .i64 o.k]) (by simp [results, Try.results24, go_sem, hc1, hg1, hc2, hg2, hc3, hg3, hc4, hg4]) rfl ⟨_, _, _, _, F1, F2, F3, F4, rfl, ?_, ?_, ?_, ?_, ?_, ?_⟩
  · exact OwnSl.stay ho1 (fun b hb => by
      have q := hf1.2 b (by simp [hb]); have q1 := q.1; have q2 := q.2; simp at q1 q2
      repeat (first | rw [heap_set _ _ _ _ (by simp; omega)] | rw [Ext.heap hx2 (by simp; omega)] | rw [Ext.heap hx3 (by simp; omega)] | rw [Ext.heap hx4 (by simp; omega)]))
  · exact OwnSl.stay ho2 (fun b hb => by
      have q := hf2.2 b (by simp [hb]); have q1 := q.1; have q2 := q.2; simp at q1 q2
      repeat (first | rw [heap_set _ _ _ _ (by simp; omega)] | rw [Ext.heap hx3 (by simp; omega)] | rw [Ext.heap hx4 (by simp; omega)]))
  · exact OwnSl.stay ho3 (fun b hb => by
      have q := hf3.2 b (by simp [hb]); have q1 := q.1; have q2 := q.2; simp at q1 q2
      repeat (first | rw [heap_set _ _ _ _ (by simp; omega)] | rw [Ext.heap hx4 (by simp; omega)]))
  · exact OwnSl.stay ho4 (fun b hb => by
      have q := hf4.2 b (by simp [hb]); have q1 := q.1; have q2 := q.2; simp at q1 q2
      repeat (first | rw [heap_set _ _ _ _ (by simp; omega)]))
  · first | exact (Fr.mk2 (Fr.mk2 (w := w) (w' := w3) (Fr.mk2 (w := w) (w' := w2) hf1 hf2 (by first | omega | (simp; done) | (simp; omega)) (by first | omega | (simp; done) | (simp; omega)) (by first | omega | (simp; done) | (simp; omega)) (by first | omega | (simp; done) | (simp; omega)) (by first | omega | (simp; done) | (simp; omega))) hf3 (by first | omega | (simp; done) | (simp; omega)) (by first | omega | (simp; done) | (simp; omega)) (by first | omega | (simp; done) | (simp; omega)) (by first | omega | (simp; done) | (simp; omega)) (by first | omega | (simp; done) | (simp; omega))) hf4 (by first | omega | (simp; done) | (simp; omega)) (by first | omega | (simp; done) | (simp; omega)) (by first | omega | (simp; done) | (simp; omega)) (by first | omega | (simp; done) | (simp; omega)) (by first | omega | (simp; done) | (simp; omega))) | (simp only [List.append_assoc]; have H := (Fr.mk2 (Fr.mk2 (w := w) (w' := w3) (Fr.mk2 (w := w) (w' := w2) hf1 hf2 (by first | omega | (simp; done) | (simp; omega)) (by first | omega | (simp; done) | (simp; omega)) (by first | omega | (simp; done) | (simp; omega)) (by first | omega | (simp; done) | (simp; omega)) (by first | omega | (simp; done) | (simp; omega))) hf3 (by first | omega | (simp; done) | (simp; omega)) (by first | omega | (simp; done) | (simp; omega)) (by first | omega | (simp; done) | (simp; omega)) (by first | omega | (simp; done) | (simp; omega)) (by first | omega | (simp; done) | (simp; omega))) hf4 (by first | omega | (simp; done) | (simp; omega)) (by first | omega | (simp; done) | (simp; omega)) (by first | omega | (simp; done) | (simp; omega)) (by first | omega | (simp; done) | (simp; omega)) (by first | omega | (simp; done) | (simp; omega))); simpa only [List.append_assoc] using H)
  · exact (by (repeat' (first | (with_reducible exact Ext.refl _) | (with_reducible exact he4) | (with_reducible exact he3) | (with_reducible exact he2) | (with_reducible exact he1) | (with_reducible apply Ext.alloc) | (with_reducible apply Ext.drew) | (with_reducible refine Ext.setCell ?_ ?_ _))); all_goals (first | (simp; done) | (simp; omega) | omega))

end Go.Proofs.Ytdmbgljkogpmdaa
