/-
  The laws count what their arguments hold (sz..).
-/
import Derived.Test.YtjemadbhpbbhlaaRows
import Derived.Test.YtjemadbhpbbhlaaTy
namespace Go.Proofs.Ytjemadbhpbbhlaa
open Go.RowKit

set_option linter.unusedVariables false
set_option linter.unusedSimpArgs false
set_option maxRecDepth 100000

set_option maxHeartbeats 1000000 in
theorem sz_ListInt (l : List Int) (v : Value) (left : Int) (w : World) (h : Sl w (Old w) v l) (h0 : 0 ≤ left) (h9 : left ≤ 1048576) :
    Calls Try.prog 102 #[v, .int .i64 left] w fun e w' => ∃ r : Int, e = .returned (.int .i64 r) ∧ SzR (Bulk.blk l) left r ∧ Ext w w' := by
  obtain ⟨A, c, rfl, hl, hm⟩ := h.form
  unfold maxLen at hm
  have HB := hide (blk_flat l (fun _ => rfl))
  by_cases hlt : (l.length : Int) ≤ left
  · go_enter Try.func102, Try.ntmps102
    go_wp2
    go_ret
    exact ⟨_, rfl, .inl ⟨by have := HB.out; omega, by have := HB.out; omega⟩, Ext.refl _⟩
  · go_enter Try.func102, Try.ntmps102
    go_wp2
    go_ret
    exact ⟨_, rfl, .inr ⟨rfl, by have := HB.out; omega⟩, Ext.refl _⟩

set_option maxHeartbeats 1000000 in
theorem sz_ListIrOp (l : List IrOp) (v : Value) (left : Int) (w : World) (h : Sl w (Old w) v l) (h0 : 0 ≤ left) (h9 : left ≤ 1048576) :
    Calls Try.prog 81 #[v, .int .i64 left] w fun e w' => ∃ r : Int, e = .returned (.int .i64 r) ∧ SzR (Bulk.blk l) left r ∧ Ext w w' := by
  obtain ⟨A, c, rfl, hl, hm⟩ := h.form
  unfold maxLen at hm
  have HB := hide (blk_flat l (fun _ => rfl))
  by_cases hlt : (l.length : Int) ≤ left
  · go_enter Try.func81, Try.ntmps81
    go_wp2
    go_ret
    exact ⟨_, rfl, .inl ⟨by have := HB.out; omega, by have := HB.out; omega⟩, Ext.refl _⟩
  · go_enter Try.func81, Try.ntmps81
    go_wp2
    go_ret
    exact ⟨_, rfl, .inr ⟨rfl, by have := HB.out; omega⟩, Ext.refl _⟩

set_option maxHeartbeats 1000000 in
theorem sz_IrBlock (o : IrBlock) (v1 : Value) (left : Int) (w : World) (hv1 : Sl w (Old w) v1 o.ops) (h0 : 0 ≤ left) (h9 : left ≤ 1048576) :
    Calls Try.prog 16 #[.agg #[.int .i64 o.pc, .int .i64 o.len, v1, .int .i64 o.fin, .int .i64 o.x, .int .i64 o.y, .int .i64 o.k], .int .i64 left] w fun e w' => ∃ r : Int, e = .returned (.int .i64 r) ∧ SzR (Bulk.blk o) left r ∧ Ext w w' := by
  obtain ⟨Av1, cv1, rfl, -, -⟩ := hv1.form
  have hbo : Bulk.blk o = Bulk.blk o.ops := rfl
  have HB := hide hbo
  clear hbo
  go_enter Try.func16, Try.ntmps16
  go_wp2_with fail
  refine (sz_ListIrOp o.ops _ _ _ (hv1.ext (Ext.auto)) (by omega) (by omega)).mono ?_
  rintro e w1 ⟨r1, rfl, hr1, hx1⟩
  have hs1 := hx1.size
  try simp at hs1
  have he1 : Ext w w1 := Ext.trans (Ext.auto) hx1
  have hc1 := fun b o (hb : b < w.heap.size + 1) => hx1.cell (b := b) (o := o) (by first | omega | (simp; omega))
  have hg1 := fun b o (hb : b < w.heap.size + 1) => hx1.frozen (b := b) (o := o) (by first | omega | (simp; omega))
  rcases hr1 with ⟨hq1, hl1⟩ | ⟨hq1, hl1⟩
  rotate_left
  · obtain ⟨HQ, hlt⟩ : Hid (r1 = -1) ∧ r1 < 0 := ⟨hq1, by omega⟩
    clear hq1
    go_wp2
    go_ret
    exact ⟨-1, rfl, .inr ⟨rfl, by have := HB.out; omega⟩, (Ext.hold he1)⟩
  have hl1z : 0 ≤ r1 := by omega
  have hl1m : r1 ≤ 1048576 := by omega
  have hl1q : r1 ≤ left - (Bulk.blk o.ops : Nat) := by omega
  have hl1p : left - (Bulk.blk o.ops : Nat) ≤ r1 := by omega
  clear hq1
  go_wp2
  go_ret
  exact ⟨_, rfl, .inl ⟨by have := HB.out; omega, by have := HB.out; omega⟩, (Ext.hold he1)⟩

set_option maxHeartbeats 1000000 in
theorem sz_CacEntry (o : CacEntry) (v1 v2 : Value) (left : Int) (w : World) (hv1 : Sl w (Old w) v1 o.words) (hv2 : Sl w (Old w) v2 o.block.ops) (h0 : 0 ≤ left) (h9 : left ≤ 1048576) :
    Calls Try.prog 50 #[.agg #[v1, .int .i64 o.block.pc, .int .i64 o.block.len, v2, .int .i64 o.block.fin, .int .i64 o.block.x, .int .i64 o.block.y, .int .i64 o.block.k], .int .i64 left] w fun e w' => ∃ r : Int, e = .returned (.int .i64 r) ∧ SzR (Bulk.blk o) left r ∧ Ext w w' := by
  obtain ⟨Av1, cv1, rfl, -, -⟩ := hv1.form
  obtain ⟨Av2, cv2, rfl, -, -⟩ := hv2.form
  have hbo : Bulk.blk o = Bulk.blk o.words + Bulk.blk o.block := rfl
  have HB := hide hbo
  clear hbo
  go_enter Try.func50, Try.ntmps50
  go_wp2_with fail
  refine (sz_ListInt o.words _ _ _ (hv1.ext (Ext.auto)) (by omega) (by omega)).mono ?_
  rintro e w1 ⟨r1, rfl, hr1, hx1⟩
  have hs1 := hx1.size
  try simp at hs1
  have he1 : Ext w w1 := Ext.trans (Ext.auto) hx1
  have hc1 := fun b o (hb : b < w.heap.size + 1) => hx1.cell (b := b) (o := o) (by first | omega | (simp; omega))
  have hg1 := fun b o (hb : b < w.heap.size + 1) => hx1.frozen (b := b) (o := o) (by first | omega | (simp; omega))
  rcases hr1 with ⟨hq1, hl1⟩ | ⟨hq1, hl1⟩
  rotate_left
  · obtain ⟨HQ, hlt⟩ : Hid (r1 = -1) ∧ r1 < 0 := ⟨hq1, by omega⟩
    clear hq1
    go_wp2
    go_ret
    exact ⟨-1, rfl, .inr ⟨rfl, by have := HB.out; omega⟩, (Ext.hold he1)⟩
  have hl1z : 0 ≤ r1 := by omega
  have hl1m : r1 ≤ 1048576 := by omega
  have hl1q : r1 ≤ left - (Bulk.blk o.words : Nat) := by omega
  have hl1p : left - (Bulk.blk o.words : Nat) ≤ r1 := by omega
  clear hq1
  go_wp2_with fail
  refine (sz_IrBlock o.block _ _ _ (hv2.ext (Ext.hold he1)) (by omega) (by omega)).mono ?_
  rintro e w2 ⟨r2, rfl, hr2, hx2⟩
  have hs2 := hx2.size
  try simp at hs2
  have he2 : Ext w w2 := Ext.trans (Ext.hold he1) hx2
  have hc2 := fun b o (hb : b < w.heap.size + 1) => hx2.cell (b := b) (o := o) (by first | omega | (simp; omega))
  have hg2 := fun b o (hb : b < w.heap.size + 1) => hx2.frozen (b := b) (o := o) (by first | omega | (simp; omega))
  rcases hr2 with ⟨hq2, hl2⟩ | ⟨hq2, hl2⟩
  rotate_left
  · obtain ⟨HQ, hlt⟩ : Hid (r2 = -1) ∧ r2 < 0 := ⟨hq2, by omega⟩
    clear hq2
    go_wp2
    go_ret
    exact ⟨-1, rfl, .inr ⟨rfl, by have := HB.out; omega⟩, (Ext.hold2 he2 he1)⟩
  have hl2z : 0 ≤ r2 := by omega
  have hl2m : r2 ≤ 1048576 := by omega
  have hl2q : r2 ≤ r1 - (Bulk.blk o.block : Nat) := by omega
  have hl2p : r1 - (Bulk.blk o.block : Nat) ≤ r2 := by omega
  clear hq2
  go_wp2
  go_ret
  exact ⟨_, rfl, .inl ⟨by have := HB.out; omega, by have := HB.out; omega⟩, (Ext.hold2 he2 he1)⟩

set_option maxHeartbeats 1000000 in
theorem sz_ListCacEntry (l : List CacEntry) (v : Value) (left : Int) (w : World) (h : Sl w (Old w) v l) (h0 : 0 ≤ left) (h9 : left ≤ 1048576) :
    Calls Try.prog 49 #[v, .int .i64 left] w fun e w' => ∃ r : Int, e = .returned (.int .i64 r) ∧ SzR (Bulk.blk l) left r ∧ Ext w w' := by
  obtain ⟨A, c, rfl, hl, hm⟩ := h.form
  unfold maxLen at hm
  by_cases hlt : (l.length : Int) ≤ left
  · go_enter Try.func49, Try.ntmps49
    go_wp2
    go_loopw [1, 5] (fun r i wr => ∃ (k : Nat) (x : Int), k ≤ l.length ∧ i = .int .i64 k ∧ r = .int .i64 x ∧ Hid (x = left - l.length - (bsum l k : Nat)) ∧ 0 ≤ x ∧ x ≤ 1048576 ∧ Ext w wr) (fun _ i _ => l.length - (intOf i).toNat)
    case atStart => exact ⟨0, _, by omega, rfl, rfl, by rw [bsum_zero]; show _ = _; omega, by omega, by omega, Ext.refl _⟩
    case round =>
      obtain ⟨k, x, hk, rfl, rfl, HX, hx0, hx9, he⟩ := hrel
      by_cases hlt : k < l.length
      · obtain ⟨b, off, v1, v2, rfl, hbo, hk0, hv1, hv2, e0, e1, e2, e3, e4, e5, e6, e7⟩ := at_CacEntry (h.ext he) hlt
        have z0 : (0 : Int) ≤ (k : Int) := by omega
        have z1 : (k : Int) < (l.length : Int) := by omega
        have HS := hide (bsum_succ l k hlt)
        go_wp2_with fail
        refine (sz_CacEntry l[k] _ _ _ _ hv1 hv2 hx0 hx9).mono ?_
        rintro e w1 ⟨r1, rfl, hr1, hx⟩
        have he1 : Ext w w1 := Ext.trans he hx
        rcases hr1 with ⟨hq, hl1⟩ | ⟨hq, hl1⟩
        · have hz : 0 ≤ r1 := by omega
          have hz9 : r1 ≤ 1048576 := by omega
          have HQ := hide hq
          clear hq
          go_wp2
          go_roundw
          case rel => exact ⟨k + 1, r1, by omega, by go_num, rfl, by have := HS.out; have := HQ.out; have := HX.out; show _ = _; omega, by omega, by omega, he1⟩
          case measure => simp [intOf]; omega
        · have hz : r1 < 0 := by omega
          have HL := hide (bsum_le l (k + 1))
          clear hq
          go_wp2
          go_ret
          exact ⟨-1, rfl, .inr ⟨rfl, by have := HS.out; have := HX.out; have := HL.out; omega⟩, he1⟩
      · obtain rfl : k = l.length := by omega
        have HA := hide (bsum_all l)
        go_wp2
        go_ret
        exact ⟨_, rfl, .inl ⟨by have := HA.out; have := HX.out; omega, by have := HA.out; have := HX.out; omega⟩, he⟩
  · have hbl := blk_len l
    go_enter Try.func49, Try.ntmps49
    go_wp2
    go_ret
    exact ⟨_, rfl, .inr ⟨rfl, by omega⟩, Ext.refl _⟩

set_option maxHeartbeats 1000000 in
theorem sz_CerPair (o : CerPair) (v1 v2 : Value) (left : Int) (w : World) (hv1 : Sl w (Old w) v1 o.base.ops) (hv2 : Sl w (Old w) v2 o.made.ops) (h0 : 0 ≤ left) (h9 : left ≤ 1048576) :
    Calls Try.prog 35 #[.agg #[.int .i64 o.base.pc, .int .i64 o.base.len, v1, .int .i64 o.base.fin, .int .i64 o.base.x, .int .i64 o.base.y, .int .i64 o.base.k, .int .i64 o.made.pc, .int .i64 o.made.len, v2, .int .i64 o.made.fin, .int .i64 o.made.x, .int .i64 o.made.y, .int .i64 o.made.k], .int .i64 left] w fun e w' => ∃ r : Int, e = .returned (.int .i64 r) ∧ SzR (Bulk.blk o) left r ∧ Ext w w' := by
  obtain ⟨Av1, cv1, rfl, -, -⟩ := hv1.form
  obtain ⟨Av2, cv2, rfl, -, -⟩ := hv2.form
  have hbo : Bulk.blk o = Bulk.blk o.base + Bulk.blk o.made := rfl
  have HB := hide hbo
  clear hbo
  go_enter Try.func35, Try.ntmps35
  go_wp2_with fail
  refine (sz_IrBlock o.base _ _ _ (hv1.ext (Ext.auto)) (by omega) (by omega)).mono ?_
  rintro e w1 ⟨r1, rfl, hr1, hx1⟩
  have hs1 := hx1.size
  try simp at hs1
  have he1 : Ext w w1 := Ext.trans (Ext.auto) hx1
  have hc1 := fun b o (hb : b < w.heap.size + 1) => hx1.cell (b := b) (o := o) (by first | omega | (simp; omega))
  have hg1 := fun b o (hb : b < w.heap.size + 1) => hx1.frozen (b := b) (o := o) (by first | omega | (simp; omega))
  rcases hr1 with ⟨hq1, hl1⟩ | ⟨hq1, hl1⟩
  rotate_left
  · obtain ⟨HQ, hlt⟩ : Hid (r1 = -1) ∧ r1 < 0 := ⟨hq1, by omega⟩
    clear hq1
    go_wp2
    go_ret
    exact ⟨-1, rfl, .inr ⟨rfl, by have := HB.out; omega⟩, (Ext.hold he1)⟩
  have hl1z : 0 ≤ r1 := by omega
  have hl1m : r1 ≤ 1048576 := by omega
  have hl1q : r1 ≤ left - (Bulk.blk o.base : Nat) := by omega
  have hl1p : left - (Bulk.blk o.base : Nat) ≤ r1 := by omega
  clear hq1
  go_wp2_with fail
  refine (sz_IrBlock o.made _ _ _ (hv2.ext (Ext.hold he1)) (by omega) (by omega)).mono ?_
  rintro e w2 ⟨r2, rfl, hr2, hx2⟩
  have hs2 := hx2.size
  try simp at hs2
  have he2 : Ext w w2 := Ext.trans (Ext.hold he1) hx2
  have hc2 := fun b o (hb : b < w.heap.size + 1) => hx2.cell (b := b) (o := o) (by first | omega | (simp; omega))
  have hg2 := fun b o (hb : b < w.heap.size + 1) => hx2.frozen (b := b) (o := o) (by first | omega | (simp; omega))
  rcases hr2 with ⟨hq2, hl2⟩ | ⟨hq2, hl2⟩
  rotate_left
  · obtain ⟨HQ, hlt⟩ : Hid (r2 = -1) ∧ r2 < 0 := ⟨hq2, by omega⟩
    clear hq2
    go_wp2
    go_ret
    exact ⟨-1, rfl, .inr ⟨rfl, by have := HB.out; omega⟩, (Ext.hold2 he2 he1)⟩
  have hl2z : 0 ≤ r2 := by omega
  have hl2m : r2 ≤ 1048576 := by omega
  have hl2q : r2 ≤ r1 - (Bulk.blk o.made : Nat) := by omega
  have hl2p : r1 - (Bulk.blk o.made : Nat) ≤ r2 := by omega
  clear hq2
  go_wp2
  go_ret
  exact ⟨_, rfl, .inl ⟨by have := HB.out; omega, by have := HB.out; omega⟩, (Ext.hold2 he2 he1)⟩

set_option maxHeartbeats 1000000 in
theorem sz_ListCerPair (l : List CerPair) (v : Value) (left : Int) (w : World) (h : Sl w (Old w) v l) (h0 : 0 ≤ left) (h9 : left ≤ 1048576) :
    Calls Try.prog 34 #[v, .int .i64 left] w fun e w' => ∃ r : Int, e = .returned (.int .i64 r) ∧ SzR (Bulk.blk l) left r ∧ Ext w w' := by
  obtain ⟨A, c, rfl, hl, hm⟩ := h.form
  unfold maxLen at hm
  by_cases hlt : (l.length : Int) ≤ left
  · go_enter Try.func34, Try.ntmps34
    go_wp2
    go_loopw [1, 5] (fun r i wr => ∃ (k : Nat) (x : Int), k ≤ l.length ∧ i = .int .i64 k ∧ r = .int .i64 x ∧ Hid (x = left - l.length - (bsum l k : Nat)) ∧ 0 ≤ x ∧ x ≤ 1048576 ∧ Ext w wr) (fun _ i _ => l.length - (intOf i).toNat)
    case atStart => exact ⟨0, _, by omega, rfl, rfl, by rw [bsum_zero]; show _ = _; omega, by omega, by omega, Ext.refl _⟩
    case round =>
      obtain ⟨k, x, hk, rfl, rfl, HX, hx0, hx9, he⟩ := hrel
      by_cases hlt : k < l.length
      · obtain ⟨b, off, v1, v2, rfl, hbo, hk0, hv1, hv2, e0, e1, e2, e3, e4, e5, e6, e7, e8, e9, e10, e11, e12, e13⟩ := at_CerPair (h.ext he) hlt
        have z0 : (0 : Int) ≤ (k : Int) := by omega
        have z1 : (k : Int) < (l.length : Int) := by omega
        have HS := hide (bsum_succ l k hlt)
        go_wp2_with fail
        refine (sz_CerPair l[k] _ _ _ _ hv1 hv2 hx0 hx9).mono ?_
        rintro e w1 ⟨r1, rfl, hr1, hx⟩
        have he1 : Ext w w1 := Ext.trans he hx
        rcases hr1 with ⟨hq, hl1⟩ | ⟨hq, hl1⟩
        · have hz : 0 ≤ r1 := by omega
          have hz9 : r1 ≤ 1048576 := by omega
          have HQ := hide hq
          clear hq
          go_wp2
          go_roundw
          case rel => exact ⟨k + 1, r1, by omega, by go_num, rfl, by have := HS.out; have := HQ.out; have := HX.out; show _ = _; omega, by omega, by omega, he1⟩
          case measure => simp [intOf]; omega
        · have hz : r1 < 0 := by omega
          have HL := hide (bsum_le l (k + 1))
          clear hq
          go_wp2
          go_ret
          exact ⟨-1, rfl, .inr ⟨rfl, by have := HS.out; have := HX.out; have := HL.out; omega⟩, he1⟩
      · obtain rfl : k = l.length := by omega
        have HA := hide (bsum_all l)
        go_wp2
        go_ret
        exact ⟨_, rfl, .inl ⟨by have := HA.out; have := HX.out; omega, by have := HA.out; have := HX.out; omega⟩, he⟩
  · have hbl := blk_len l
    go_enter Try.func34, Try.ntmps34
    go_wp2
    go_ret
    exact ⟨_, rfl, .inr ⟨rfl, by omega⟩, Ext.refl _⟩

end Go.Proofs.Ytjemadbhpbbhlaa
