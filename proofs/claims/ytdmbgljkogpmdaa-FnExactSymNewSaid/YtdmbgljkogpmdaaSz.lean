/-
  The laws count what their arguments hold (sz..).
-/
import Derived.Test.YtdmbgljkogpmdaaRows
import Derived.Test.YtdmbgljkogpmdaaTy
namespace Go.Proofs.Ytdmbgljkogpmdaa
open Go.RowKit

set_option linter.unusedVariables false
set_option linter.unusedSimpArgs false
set_option maxRecDepth 100000

set_option maxHeartbeats 1000000 in
theorem sz_ListInt (l : List Int) (v : Value) (left : Int) (w : World) (h : Sl w (Old w) v l) (h0 : 0 ≤ left) (h9 : left ≤ 1048576) :
    Calls Try.prog 117 #[v, .int .i64 left] w fun e w' => ∃ r : Int, e = .returned (.int .i64 r) ∧ SzR (Bulk.blk l) left r ∧ Ext w w' := by
  obtain ⟨A, c, rfl, hl, hm⟩ := h.form
  unfold maxLen at hm
  have HB := hide (blk_flat l (fun _ => rfl))
  by_cases hlt : (l.length : Int) ≤ left
  · go_enter Try.func117, Try.ntmps117
    go_wp2
    go_ret
    exact ⟨_, rfl, .inl ⟨by have := HB.out; omega, by have := HB.out; omega⟩, Ext.refl _⟩
  · go_enter Try.func117, Try.ntmps117
    go_wp2
    go_ret
    exact ⟨_, rfl, .inr ⟨rfl, by have := HB.out; omega⟩, Ext.refl _⟩

set_option maxHeartbeats 1000000 in
theorem sz_TrmMono (o : TrmMono) (v1 : Value) (left : Int) (w : World) (hv1 : Sl w (Old w) v1 o.atoms) (h0 : 0 ≤ left) (h9 : left ≤ 1048576) :
    Calls Try.prog 101 #[.agg #[.int .i64 o.coef, v1], .int .i64 left] w fun e w' => ∃ r : Int, e = .returned (.int .i64 r) ∧ SzR (Bulk.blk o) left r ∧ Ext w w' := by
  obtain ⟨Av1, cv1, rfl, -, -⟩ := hv1.form
  have hbo : Bulk.blk o = Bulk.blk o.atoms := rfl
  have HB := hide hbo
  clear hbo
  go_enter Try.func101, Try.ntmps101
  go_wp2_with fail
  refine (sz_ListInt o.atoms _ _ _ (hv1.ext (Ext.auto)) (by omega) (by omega)).mono ?_
  rintro e w1 ⟨r1, rfl, hr1, hx1⟩
  have hs1 := hx1.size
  try simp at hs1
  have he1 : Ext w w1 := Ext.trans (Ext.auto) hx1
  have hc1 := fun b o (hb : b < w.heap.size + 1) => hx1.cell (b := b) (o := o) (by first | omega | (simp; omega))
  have hg1 := fun b o (hb : b < w.heap.size + 1) => hx1.frozen (b := b) (o := o) (by first | omega | (simp; omega))
  rcases hr1 with ⟨hq1, hl1⟩ | ⟨hq1, hl1⟩
  rotate_left
  · obtain ⟨HQ, hlt⟩ : Hid (r1 = -1) ∧ r1 < 0 := ⟨hq1, by omega⟩
    clear hq1
    go_wp2
    go_ret
    exact ⟨-1, rfl, .inr ⟨rfl, by have := HB.out; omega⟩, (Ext.hold he1)⟩
  have hl1z : 0 ≤ r1 := by omega
  have hl1m : r1 ≤ 1048576 := by omega
  have hl1q : r1 ≤ left - (Bulk.blk o.atoms : Nat) := by omega
  have hl1p : left - (Bulk.blk o.atoms : Nat) ≤ r1 := by omega
  clear hq1
  go_wp2
  go_ret
  exact ⟨_, rfl, .inl ⟨by have := HB.out; omega, by have := HB.out; omega⟩, (Ext.hold he1)⟩

set_option maxHeartbeats 1000000 in
theorem sz_ListTrmMono (l : List TrmMono) (v : Value) (left : Int) (w : World) (h : Sl w (Old w) v l) (h0 : 0 ≤ left) (h9 : left ≤ 1048576) :
    Calls Try.prog 74 #[v, .int .i64 left] w fun e w' => ∃ r : Int, e = .returned (.int .i64 r) ∧ SzR (Bulk.blk l) left r ∧ Ext w w' := by
  obtain ⟨A, c, rfl, hl, hm⟩ := h.form
  unfold maxLen at hm
  by_cases hlt : (l.length : Int) ≤ left
  · go_enter Try.func74, Try.ntmps74
    go_wp2
    go_loopw [1, 5] (fun r i wr => ∃ (k : Nat) (x : Int), k ≤ l.length ∧ i = .int .i64 k ∧ r = .int .i64 x ∧ Hid (x = left - l.length - (bsum l k : Nat)) ∧ 0 ≤ x ∧ x ≤ 1048576 ∧ Ext w wr) (fun _ i _ => l.length - (intOf i).toNat)
    case atStart => exact ⟨0, _, by omega, rfl, rfl, by rw [bsum_zero]; show _ = _; omega, by omega, by omega, Ext.refl _⟩
    case round =>
      obtain ⟨k, x, hk, rfl, rfl, HX, hx0, hx9, he⟩ := hrel
      by_cases hlt : k < l.length
      · obtain ⟨b, off, v1, rfl, hbo, hk0, hv1, e0, e1⟩ := at_TrmMono (h.ext he) hlt
        have z0 : (0 : Int) ≤ (k : Int) := by omega
        have z1 : (k : Int) < (l.length : Int) := by omega
        have HS := hide (bsum_succ l k hlt)
        go_wp2_with fail
        refine (sz_TrmMono l[k] _ _ _ hv1 hx0 hx9).mono ?_
        rintro e w1 ⟨r1, rfl, hr1, hx⟩
        have he1 : Ext w w1 := Ext.trans he hx
        rcases hr1 with ⟨hq, hl1⟩ | ⟨hq, hl1⟩
        · have hz : 0 ≤ r1 := by omega
          have hz9 : r1 ≤ 1048576 := by omega
          have HQ := hide hq
          clear hq
          go_wp2
          go_roundw
          case rel => exact ⟨k + 1, r1, by omega, by go_num, rfl, by have := HS.out; have := HQ.out; have := HX.out; show _ = _; omega, by omega, by omega, he1⟩
          case measure => simp [intOf]; omega
        · have hz : r1 < 0 := by omega
          have HL := hide (bsum_le l (k + 1))
          clear hq
          go_wp2
          go_ret
          exact ⟨-1, rfl, .inr ⟨rfl, by have := HS.out; have := HX.out; have := HL.out; omega⟩, he1⟩
      · obtain rfl : k = l.length := by omega
        have HA := hide (bsum_all l)
        go_wp2
        go_ret
        exact ⟨_, rfl, .inl ⟨by have := HA.out; have := HX.out; omega, by have := HA.out; have := HX.out; omega⟩, he⟩
  · have hbl := blk_len l
    go_enter Try.func74, Try.ntmps74
    go_wp2
    go_ret
    exact ⟨_, rfl, .inr ⟨rfl, by omega⟩, Ext.refl _⟩

set_option maxHeartbeats 1000000 in
theorem sz_TrmPoly (o : TrmPoly) (v1 : Value) (left : Int) (w : World) (hv1 : Sl w (Old w) v1 o.monos) (h0 : 0 ≤ left) (h9 : left ≤ 1048576) :
    Calls Try.prog 39 #[.agg #[v1], .int .i64 left] w fun e w' => ∃ r : Int, e = .returned (.int .i64 r) ∧ SzR (Bulk.blk o) left r ∧ Ext w w' := by
  obtain ⟨Av1, cv1, rfl, -, -⟩ := hv1.form
  have hbo : Bulk.blk o = Bulk.blk o.monos := rfl
  have HB := hide hbo
  clear hbo
  go_enter Try.func39, Try.ntmps39
  go_wp2_with fail
  refine (sz_ListTrmMono o.monos _ _ _ (hv1.ext (Ext.auto)) (by omega) (by omega)).mono ?_
  rintro e w1 ⟨r1, rfl, hr1, hx1⟩
  have hs1 := hx1.size
  try simp at hs1
  have he1 : Ext w w1 := Ext.trans (Ext.auto) hx1
  have hc1 := fun b o (hb : b < w.heap.size + 1) => hx1.cell (b := b) (o := o) (by first | omega | (simp; omega))
  have hg1 := fun b o (hb : b < w.heap.size + 1) => hx1.frozen (b := b) (o := o) (by first | omega | (simp; omega))
  rcases hr1 with ⟨hq1, hl1⟩ | ⟨hq1, hl1⟩
  rotate_left
  · obtain ⟨HQ, hlt⟩ : Hid (r1 = -1) ∧ r1 < 0 := ⟨hq1, by omega⟩
    clear hq1
    go_wp2
    go_ret
    exact ⟨-1, rfl, .inr ⟨rfl, by have := HB.out; omega⟩, (Ext.hold he1)⟩
  have hl1z : 0 ≤ r1 := by omega
  have hl1m : r1 ≤ 1048576 := by omega
  have hl1q : r1 ≤ left - (Bulk.blk o.monos : Nat) := by omega
  have hl1p : left - (Bulk.blk o.monos : Nat) ≤ r1 := by omega
  clear hq1
  go_wp2
  go_ret
  exact ⟨_, rfl, .inl ⟨by have := HB.out; omega, by have := HB.out; omega⟩, (Ext.hold he1)⟩

set_option maxHeartbeats 1000000 in
theorem sz_ListTrmPoly (l : List TrmPoly) (v : Value) (left : Int) (w : World) (h : Sl w (Old w) v l) (h0 : 0 ≤ left) (h9 : left ≤ 1048576) :
    Calls Try.prog 49 #[v, .int .i64 left] w fun e w' => ∃ r : Int, e = .returned (.int .i64 r) ∧ SzR (Bulk.blk l) left r ∧ Ext w w' := by
  obtain ⟨A, c, rfl, hl, hm⟩ := h.form
  unfold maxLen at hm
  by_cases hlt : (l.length : Int) ≤ left
  · go_enter Try.func49, Try.ntmps49
    go_wp2
    go_loopw [1, 5] (fun r i wr => ∃ (k : Nat) (x : Int), k ≤ l.length ∧ i = .int .i64 k ∧ r = .int .i64 x ∧ Hid (x = left - l.length - (bsum l k : Nat)) ∧ 0 ≤ x ∧ x ≤ 1048576 ∧ Ext w wr) (fun _ i _ => l.length - (intOf i).toNat)
    case atStart => exact ⟨0, _, by omega, rfl, rfl, by rw [bsum_zero]; show _ = _; omega, by omega, by omega, Ext.refl _⟩
    case round =>
      obtain ⟨k, x, hk, rfl, rfl, HX, hx0, hx9, he⟩ := hrel
      by_cases hlt : k < l.length
      · obtain ⟨b, off, v1, rfl, hbo, hk0, hv1, e0⟩ := at_TrmPoly (h.ext he) hlt
        have z0 : (0 : Int) ≤ (k : Int) := by omega
        have z1 : (k : Int) < (l.length : Int) := by omega
        have HS := hide (bsum_succ l k hlt)
        go_wp2_with fail
        refine (sz_TrmPoly l[k] _ _ _ hv1 hx0 hx9).mono ?_
        rintro e w1 ⟨r1, rfl, hr1, hx⟩
        have he1 : Ext w w1 := Ext.trans he hx
        rcases hr1 with ⟨hq, hl1⟩ | ⟨hq, hl1⟩
        · have hz : 0 ≤ r1 := by omega
          have hz9 : r1 ≤ 1048576 := by omega
          have HQ := hide hq
          clear hq
          go_wp2
          go_roundw
          case rel => exact ⟨k + 1, r1, by omega, by go_num, rfl, by have := HS.out; have := HQ.out; have := HX.out; show _ = _; omega, by omega, by omega, he1⟩
          case measure => simp [intOf]; omega
        · have hz : r1 < 0 := by omega
          have HL := hide (bsum_le l (k + 1))
          clear hq
          go_wp2
          go_ret
          exact ⟨-1, rfl, .inr ⟨rfl, by have := HS.out; have := HX.out; have := HL.out; omega⟩, he1⟩
      · obtain rfl : k = l.length := by omega
        have HA := hide (bsum_all l)
        go_wp2
        go_ret
        exact ⟨_, rfl, .inl ⟨by have := HA.out; have := HX.out; omega, by have := HA.out; have := HX.out; omega⟩, he⟩
  · have hbl := blk_len l
    go_enter Try.func49, Try.ntmps49
    go_wp2
    go_ret
    exact ⟨_, rfl, .inr ⟨rfl, by omega⟩, Ext.refl _⟩

set_option maxHeartbeats 1000000 in
theorem sz_TabAtom (o : TabAtom) (v1 v2 : Value) (left : Int) (w : World) (hv1 : Sl w (Old w) v1 o.x.monos) (hv2 : Sl w (Old w) v2 o.y.monos) (h0 : 0 ≤ left) (h9 : left ≤ 1048576) :
    Calls Try.prog 15 #[.agg #[.int .i64 o.kind, .int .i64 o.k, v1, v2], .int .i64 left] w fun e w' => ∃ r : Int, e = .returned (.int .i64 r) ∧ SzR (Bulk.blk o) left r ∧ Ext w w' := by
  obtain ⟨Av1, cv1, rfl, -, -⟩ := hv1.form
  obtain ⟨Av2, cv2, rfl, -, -⟩ := hv2.form
  have hbo : Bulk.blk o = Bulk.blk o.x + Bulk.blk o.y := rfl
  have HB := hide hbo
  clear hbo
  go_enter Try.func15, Try.ntmps15
  go_wp2_with fail
  refine (sz_TrmPoly o.x _ _ _ (hv1.ext (Ext.auto)) (by omega) (by omega)).mono ?_
  rintro e w1 ⟨r1, rfl, hr1, hx1⟩
  have hs1 := hx1.size
  try simp at hs1
  have he1 : Ext w w1 := Ext.trans (Ext.auto) hx1
  have hc1 := fun b o (hb : b < w.heap.size + 1) => hx1.cell (b := b) (o := o) (by first | omega | (simp; omega))
  have hg1 := fun b o (hb : b < w.heap.size + 1) => hx1.frozen (b := b) (o := o) (by first | omega | (simp; omega))
  rcases hr1 with ⟨hq1, hl1⟩ | ⟨hq1, hl1⟩
  rotate_left
  · obtain ⟨HQ, hlt⟩ : Hid (r1 = -1) ∧ r1 < 0 := ⟨hq1, by omega⟩
    clear hq1
    go_wp2
    go_ret
    exact ⟨-1, rfl, .inr ⟨rfl, by have := HB.out; omega⟩, (Ext.hold he1)⟩
  have hl1z : 0 ≤ r1 := by omega
  have hl1m : r1 ≤ 1048576 := by omega
  have hl1q : r1 ≤ left - (Bulk.blk o.x : Nat) := by omega
  have hl1p : left - (Bulk.blk o.x : Nat) ≤ r1 := by omega
  clear hq1
  go_wp2_with fail
  refine (sz_TrmPoly o.y _ _ _ (hv2.ext (Ext.hold he1)) (by omega) (by omega)).mono ?_
  rintro e w2 ⟨r2, rfl, hr2, hx2⟩
  have hs2 := hx2.size
  try simp at hs2
  have he2 : Ext w w2 := Ext.trans (Ext.hold he1) hx2
  have hc2 := fun b o (hb : b < w.heap.size + 1) => hx2.cell (b := b) (o := o) (by first | omega | (simp; omega))
  have hg2 := fun b o (hb : b < w.heap.size + 1) => hx2.frozen (b := b) (o := o) (by first | omega | (simp; omega))
  rcases hr2 with ⟨hq2, hl2⟩ | ⟨hq2, hl2⟩
  rotate_left
  · obtain ⟨HQ, hlt⟩ : Hid (r2 = -1) ∧ r2 < 0 := ⟨hq2, by omega⟩
    clear hq2
    go_wp2
    go_ret
    exact ⟨-1, rfl, .inr ⟨rfl, by have := HB.out; omega⟩, (Ext.hold2 he2 he1)⟩
  have hl2z : 0 ≤ r2 := by omega
  have hl2m : r2 ≤ 1048576 := by omega
  have hl2q : r2 ≤ r1 - (Bulk.blk o.y : Nat) := by omega
  have hl2p : r1 - (Bulk.blk o.y : Nat) ≤ r2 := by omega
  clear hq2
  go_wp2
  go_ret
  exact ⟨_, rfl, .inl ⟨by have := HB.out; omega, by have := HB.out; omega⟩, (Ext.hold2 he2 he1)⟩

set_option maxHeartbeats 1000000 in
theorem sz_ListTabAtom (l : List TabAtom) (v : Value) (left : Int) (w : World) (h : Sl w (Old w) v l) (h0 : 0 ≤ left) (h9 : left ≤ 1048576) :
    Calls Try.prog 38 #[v, .int .i64 left] w fun e w' => ∃ r : Int, e = .returned (.int .i64 r) ∧ SzR (Bulk.blk l) left r ∧ Ext w w' := by
  obtain ⟨A, c, rfl, hl, hm⟩ := h.form
  unfold maxLen at hm
  by_cases hlt : (l.length : Int) ≤ left
  · go_enter Try.func38, Try.ntmps38
    go_wp2
    go_loopw [1, 5] (fun r i wr => ∃ (k : Nat) (x : Int), k ≤ l.length ∧ i = .int .i64 k ∧ r = .int .i64 x ∧ Hid (x = left - l.length - (bsum l k : Nat)) ∧ 0 ≤ x ∧ x ≤ 1048576 ∧ Ext w wr) (fun _ i _ => l.length - (intOf i).toNat)
    case atStart => exact ⟨0, _, by omega, rfl, rfl, by rw [bsum_zero]; show _ = _; omega, by omega, by omega, Ext.refl _⟩
    case round =>
      obtain ⟨k, x, hk, rfl, rfl, HX, hx0, hx9, he⟩ := hrel
      by_cases hlt : k < l.length
      · obtain ⟨b, off, v1, v2, rfl, hbo, hk0, hv1, hv2, e0, e1, e2, e3⟩ := at_TabAtom (h.ext he) hlt
        have z0 : (0 : Int) ≤ (k : Int) := by omega
        have z1 : (k : Int) < (l.length : Int) := by omega
        have HS := hide (bsum_succ l k hlt)
        go_wp2_with fail
        refine (sz_TabAtom l[k] _ _ _ _ hv1 hv2 hx0 hx9).mono ?_
        rintro e w1 ⟨r1, rfl, hr1, hx⟩
        have he1 : Ext w w1 := Ext.trans he hx
        rcases hr1 with ⟨hq, hl1⟩ | ⟨hq, hl1⟩
        · have hz : 0 ≤ r1 := by omega
          have hz9 : r1 ≤ 1048576 := by omega
          have HQ := hide hq
          clear hq
          go_wp2
          go_roundw
          case rel => exact ⟨k + 1, r1, by omega, by go_num, rfl, by have := HS.out; have := HQ.out; have := HX.out; show _ = _; omega, by omega, by omega, he1⟩
          case measure => simp [intOf]; omega
        · have hz : r1 < 0 := by omega
          have HL := hide (bsum_le l (k + 1))
          clear hq
          go_wp2
          go_ret
          exact ⟨-1, rfl, .inr ⟨rfl, by have := HS.out; have := HX.out; have := HL.out; omega⟩, he1⟩
      · obtain rfl : k = l.length := by omega
        have HA := hide (bsum_all l)
        go_wp2
        go_ret
        exact ⟨_, rfl, .inl ⟨by have := HA.out; have := HX.out; omega, by have := HA.out; have := HX.out; omega⟩, he⟩
  · have hbl := blk_len l
    go_enter Try.func38, Try.ntmps38
    go_wp2
    go_ret
    exact ⟨_, rfl, .inr ⟨rfl, by omega⟩, Ext.refl _⟩

set_option maxHeartbeats 1000000 in
theorem sz_TabTab (o : TabTab) (v1 : Value) (left : Int) (w : World) (hv1 : Sl w (Old w) v1 o.atoms) (h0 : 0 ≤ left) (h9 : left ≤ 1048576) :
    Calls Try.prog 14 #[.agg #[v1], .int .i64 left] w fun e w' => ∃ r : Int, e = .returned (.int .i64 r) ∧ SzR (Bulk.blk o) left r ∧ Ext w w' := by
  obtain ⟨Av1, cv1, rfl, -, -⟩ := hv1.form
  have hbo : Bulk.blk o = Bulk.blk o.atoms := rfl
  have HB := hide hbo
  clear hbo
  go_enter Try.func14, Try.ntmps14
  go_wp2_with fail
  refine (sz_ListTabAtom o.atoms _ _ _ (hv1.ext (Ext.auto)) (by omega) (by omega)).mono ?_
  rintro e w1 ⟨r1, rfl, hr1, hx1⟩
  have hs1 := hx1.size
  try simp at hs1
  have he1 : Ext w w1 := Ext.trans (Ext.auto) hx1
  have hc1 := fun b o (hb : b < w.heap.size + 1) => hx1.cell (b := b) (o := o) (by first | omega | (simp; omega))
  have hg1 := fun b o (hb : b < w.heap.size + 1) => hx1.frozen (b := b) (o := o) (by first | omega | (simp; omega))
  rcases hr1 with ⟨hq1, hl1⟩ | ⟨hq1, hl1⟩
  rotate_left
  · obtain ⟨HQ, hlt⟩ : Hid (r1 = -1) ∧ r1 < 0 := ⟨hq1, by omega⟩
    clear hq1
    go_wp2
    go_ret
    exact ⟨-1, rfl, .inr ⟨rfl, by have := HB.out; omega⟩, (Ext.hold he1)⟩
  have hl1z : 0 ≤ r1 := by omega
  have hl1m : r1 ≤ 1048576 := by omega
  have hl1q : r1 ≤ left - (Bulk.blk o.atoms : Nat) := by omega
  have hl1p : left - (Bulk.blk o.atoms : Nat) ≤ r1 := by omega
  clear hq1
  go_wp2
  go_ret
  exact ⟨_, rfl, .inl ⟨by have := HB.out; omega, by have := HB.out; omega⟩, (Ext.hold he1)⟩

set_option maxHeartbeats 1000000 in
theorem sz_SymEvent (o : SymEvent) (v1 v2 v3 : Value) (left : Int) (w : World) (hv1 : Sl w (Old w) v1 o.x.monos) (hv2 : Sl w (Old w) v2 o.y.monos) (hv3 : Sl w (Old w) v3 o.regs) (h0 : 0 ≤ left) (h9 : left ≤ 1048576) :
    Calls Try.prog 82 #[.agg #[.int .i64 o.kind, .int .i64 o.at_, v1, v2, v3], .int .i64 left] w fun e w' => ∃ r : Int, e = .returned (.int .i64 r) ∧ SzR (Bulk.blk o) left r ∧ Ext w w' := by
  obtain ⟨Av1, cv1, rfl, -, -⟩ := hv1.form
  obtain ⟨Av2, cv2, rfl, -, -⟩ := hv2.form
  obtain ⟨Av3, cv3, rfl, -, -⟩ := hv3.form
  have hbo : Bulk.blk o = Bulk.blk o.x + Bulk.blk o.y + Bulk.blk o.regs := rfl
  have HB := hide hbo
  clear hbo
  go_enter Try.func82, Try.ntmps82
  go_wp2_with fail
  refine (sz_TrmPoly o.x _ _ _ (hv1.ext (Ext.auto)) (by omega) (by omega)).mono ?_
  rintro e w1 ⟨r1, rfl, hr1, hx1⟩
  have hs1 := hx1.size
  try simp at hs1
  have he1 : Ext w w1 := Ext.trans (Ext.auto) hx1
  have hc1 := fun b o (hb : b < w.heap.size + 1) => hx1.cell (b := b) (o := o) (by first | omega | (simp; omega))
  have hg1 := fun b o (hb : b < w.heap.size + 1) => hx1.frozen (b := b) (o := o) (by first | omega | (simp; omega))
  rcases hr1 with ⟨hq1, hl1⟩ | ⟨hq1, hl1⟩
  rotate_left
  · obtain ⟨HQ, hlt⟩ : Hid (r1 = -1) ∧ r1 < 0 := ⟨hq1, by omega⟩
    clear hq1
    go_wp2
    go_ret
    exact ⟨-1, rfl, .inr ⟨rfl, by have := HB.out; omega⟩, (Ext.hold he1)⟩
  have hl1z : 0 ≤ r1 := by omega
  have hl1m : r1 ≤ 1048576 := by omega
  have hl1q : r1 ≤ left - (Bulk.blk o.x : Nat) := by omega
  have hl1p : left - (Bulk.blk o.x : Nat) ≤ r1 := by omega
  clear hq1
  go_wp2_with fail
  refine (sz_TrmPoly o.y _ _ _ (hv2.ext (Ext.hold he1)) (by omega) (by omega)).mono ?_
  rintro e w2 ⟨r2, rfl, hr2, hx2⟩
  have hs2 := hx2.size
  try simp at hs2
  have he2 : Ext w w2 := Ext.trans (Ext.hold he1) hx2
  have hc2 := fun b o (hb : b < w.heap.size + 1) => hx2.cell (b := b) (o := o) (by first | omega | (simp; omega))
  have hg2 := fun b o (hb : b < w.heap.size + 1) => hx2.frozen (b := b) (o := o) (by first | omega | (simp; omega))
  rcases hr2 with ⟨hq2, hl2⟩ | ⟨hq2, hl2⟩
  rotate_left
  · obtain ⟨HQ, hlt⟩ : Hid (r2 = -1) ∧ r2 < 0 := ⟨hq2, by omega⟩
    clear hq2
    go_wp2
    go_ret
    exact ⟨-1, rfl, .inr ⟨rfl, by have := HB.out; omega⟩, (Ext.hold2 he2 he1)⟩
  have hl2z : 0 ≤ r2 := by omega
  have hl2m : r2 ≤ 1048576 := by omega
  have hl2q : r2 ≤ r1 - (Bulk.blk o.y : Nat) := by omega
  have hl2p : r1 - (Bulk.blk o.y : Nat) ≤ r2 := by omega
  clear hq2
  go_wp2_with fail
  refine (sz_ListTrmPoly o.regs _ _ _ (hv3.ext (Ext.hold2 he2 he1)) (by omega) (by omega)).mono ?_
  rintro e w3 ⟨r3, rfl, hr3, hx3⟩
  have hs3 := hx3.size
  try simp at hs3
  have he3 : Ext w w3 := Ext.trans (Ext.hold2 he2 he1) hx3
  have hc3 := fun b o (hb : b < w.heap.size + 1) => hx3.cell (b := b) (o := o) (by first | omega | (simp; omega))
  have hg3 := fun b o (hb : b < w.heap.size + 1) => hx3.frozen (b := b) (o := o) (by first | omega | (simp; omega))
  rcases hr3 with ⟨hq3, hl3⟩ | ⟨hq3, hl3⟩
  rotate_left
  · obtain ⟨HQ, hlt⟩ : Hid (r3 = -1) ∧ r3 < 0 := ⟨hq3, by omega⟩
    clear hq3
    go_wp2
    go_ret
    exact ⟨-1, rfl, .inr ⟨rfl, by have := HB.out; omega⟩, (by (repeat' (first | (with_reducible exact Ext.refl _) | (with_reducible exact he3) | (with_reducible exact he2) | (with_reducible exact he1) | (with_reducible apply Ext.alloc) | (with_reducible apply Ext.drew) | (with_reducible refine Ext.setCell ?_ ?_ _))); all_goals (first | (simp; done) | (simp; omega) | omega))⟩
  have hl3z : 0 ≤ r3 := by omega
  have hl3m : r3 ≤ 1048576 := by omega
  have hl3q : r3 ≤ r2 - (Bulk.blk o.regs : Nat) := by omega
  have hl3p : r2 - (Bulk.blk o.regs : Nat) ≤ r3 := by omega
  clear hq3
  go_wp2
  go_ret
  exact ⟨_, rfl, .inl ⟨by have := HB.out; omega, by have := HB.out; omega⟩, (by (repeat' (first | (with_reducible exact Ext.refl _) | (with_reducible exact he3) | (with_reducible exact he2) | (with_reducible exact he1) | (with_reducible apply Ext.alloc) | (with_reducible apply Ext.drew) | (with_reducible refine Ext.setCell ?_ ?_ _))); all_goals (first | (simp; done) | (simp; omega) | omega))⟩

set_option maxHeartbeats 1000000 in
theorem sz_ListSymEvent (l : List SymEvent) (v : Value) (left : Int) (w : World) (h : Sl w (Old w) v l) (h0 : 0 ≤ left) (h9 : left ≤ 1048576) :
    Calls Try.prog 48 #[v, .int .i64 left] w fun e w' => ∃ r : Int, e = .returned (.int .i64 r) ∧ SzR (Bulk.blk l) left r ∧ Ext w w' := by
  obtain ⟨A, c, rfl, hl, hm⟩ := h.form
  unfold maxLen at hm
  by_cases hlt : (l.length : Int) ≤ left
  · go_enter Try.func48, Try.ntmps48
    go_wp2
    go_loopw [1, 5] (fun r i wr => ∃ (k : Nat) (x : Int), k ≤ l.length ∧ i = .int .i64 k ∧ r = .int .i64 x ∧ Hid (x = left - l.length - (bsum l k : Nat)) ∧ 0 ≤ x ∧ x ≤ 1048576 ∧ Ext w wr) (fun _ i _ => l.length - (intOf i).toNat)
    case atStart => exact ⟨0, _, by omega, rfl, rfl, by rw [bsum_zero]; show _ = _; omega, by omega, by omega, Ext.refl _⟩
    case round =>
      obtain ⟨k, x, hk, rfl, rfl, HX, hx0, hx9, he⟩ := hrel
      by_cases hlt : k < l.length
      · obtain ⟨b, off, v1, v2, v3, rfl, hbo, hk0, hv1, hv2, hv3, e0, e1, e2, e3, e4⟩ := at_SymEvent (h.ext he) hlt
        have z0 : (0 : Int) ≤ (k : Int) := by omega
        have z1 : (k : Int) < (l.length : Int) := by omega
        have HS := hide (bsum_succ l k hlt)
        go_wp2_with fail
        refine (sz_SymEvent l[k] _ _ _ _ _ hv1 hv2 hv3 hx0 hx9).mono ?_
        rintro e w1 ⟨r1, rfl, hr1, hx⟩
        have he1 : Ext w w1 := Ext.trans he hx
        rcases hr1 with ⟨hq, hl1⟩ | ⟨hq, hl1⟩
        · have hz : 0 ≤ r1 := by omega
          have hz9 : r1 ≤ 1048576 := by omega
          have HQ := hide hq
          clear hq
          go_wp2
          go_roundw
          case rel => exact ⟨k + 1, r1, by omega, by go_num, rfl, by have := HS.out; have := HQ.out; have := HX.out; show _ = _; omega, by omega, by omega, he1⟩
          case measure => simp [intOf]; omega
        · have hz : r1 < 0 := by omega
          have HL := hide (bsum_le l (k + 1))
          clear hq
          go_wp2
          go_ret
          exact ⟨-1, rfl, .inr ⟨rfl, by have := HS.out; have := HX.out; have := HL.out; omega⟩, he1⟩
      · obtain rfl : k = l.length := by omega
        have HA := hide (bsum_all l)
        go_wp2
        go_ret
        exact ⟨_, rfl, .inl ⟨by have := HA.out; have := HX.out; omega, by have := HA.out; have := HX.out; omega⟩, he⟩
  · have hbl := blk_len l
    go_enter Try.func48, Try.ntmps48
    go_wp2
    go_ret
    exact ⟨_, rfl, .inr ⟨rfl, by omega⟩, Ext.refl _⟩

set_option maxHeartbeats 1000000 in
theorem sz_SymSym (o : SymSym) (v1 v2 v3 v4 : Value) (left : Int) (w : World) (hv1 : Sl w (Old w) v1 o.events) (hv2 : Sl w (Old w) v2 o.regs) (hv3 : Sl w (Old w) v3 o.x.monos) (hv4 : Sl w (Old w) v4 o.y.monos) (h0 : 0 ≤ left) (h9 : left ≤ 1048576) :
    Calls Try.prog 22 #[.agg #[v1, v2, .int .i64 o.fin, v3, v4, .int .i64 o.k], .int .i64 left] w fun e w' => ∃ r : Int, e = .returned (.int .i64 r) ∧ SzR (Bulk.blk o) left r ∧ Ext w w' := by
  obtain ⟨Av1, cv1, rfl, -, -⟩ := hv1.form
  obtain ⟨Av2, cv2, rfl, -, -⟩ := hv2.form
  obtain ⟨Av3, cv3, rfl, -, -⟩ := hv3.form
  obtain ⟨Av4, cv4, rfl, -, -⟩ := hv4.form
  have hbo : Bulk.blk o = Bulk.blk o.events + Bulk.blk o.regs + Bulk.blk o.x + Bulk.blk o.y := rfl
  have HB := hide hbo
  clear hbo
  go_enter Try.func22, Try.ntmps22
  go_wp2_with fail
  refine (sz_ListSymEvent o.events _ _ _ (hv1.ext (Ext.auto)) (by omega) (by omega)).mono ?_
  rintro e w1 ⟨r1, rfl, hr1, hx1⟩
  have hs1 := hx1.size
  try simp at hs1
  have he1 : Ext w w1 := Ext.trans (Ext.auto) hx1
  have hc1 := fun b o (hb : b < w.heap.size + 1) => hx1.cell (b := b) (o := o) (by first | omega | (simp; omega))
  have hg1 := fun b o (hb : b < w.heap.size + 1) => hx1.frozen (b := b) (o := o) (by first | omega | (simp; omega))
  rcases hr1 with ⟨hq1, hl1⟩ | ⟨hq1, hl1⟩
  rotate_left
  · obtain ⟨HQ, hlt⟩ : Hid (r1 = -1) ∧ r1 < 0 := ⟨hq1, by omega⟩
    clear hq1
    go_wp2
    go_ret
    exact ⟨-1, rfl, .inr ⟨rfl, by have := HB.out; omega⟩, (Ext.hold he1)⟩
  have hl1z : 0 ≤ r1 := by omega
  have hl1m : r1 ≤ 1048576 := by omega
  have hl1q : r1 ≤ left - (Bulk.blk o.events : Nat) := by omega
  have hl1p : left - (Bulk.blk o.events : Nat) ≤ r1 := by omega
  clear hq1
  go_wp2_with fail
  refine (sz_ListTrmPoly o.regs _ _ _ (hv2.ext (Ext.hold he1)) (by omega) (by omega)).mono ?_
  rintro e w2 ⟨r2, rfl, hr2, hx2⟩
  have hs2 := hx2.size
  try simp at hs2
  have he2 : Ext w w2 := Ext.trans (Ext.hold he1) hx2
  have hc2 := fun b o (hb : b < w.heap.size + 1) => hx2.cell (b := b) (o := o) (by first | omega | (simp; omega))
  have hg2 := fun b o (hb : b < w.heap.size + 1) => hx2.frozen (b := b) (o := o) (by first | omega | (simp; omega))
  rcases hr2 with ⟨hq2, hl2⟩ | ⟨hq2, hl2⟩
  rotate_left
  · obtain ⟨HQ, hlt⟩ : Hid (r2 = -1) ∧ r2 < 0 := ⟨hq2, by omega⟩
    clear hq2
    go_wp2
    go_ret
    exact ⟨-1, rfl, .inr ⟨rfl, by have := HB.out; omega⟩, (Ext.hold2 he2 he1)⟩
  have hl2z : 0 ≤ r2 := by omega
  have hl2m : r2 ≤ 1048576 := by omega
  have hl2q : r2 ≤ r1 - (Bulk.blk o.regs : Nat) := by omega
  have hl2p : r1 - (Bulk.blk o.regs : Nat) ≤ r2 := by omega
  clear hq2
  go_wp2_with fail
  refine (sz_TrmPoly o.x _ _ _ (hv3.ext (Ext.hold2 he2 he1)) (by omega) (by omega)).mono ?_
  rintro e w3 ⟨r3, rfl, hr3, hx3⟩
  have hs3 := hx3.size
  try simp at hs3
  have he3 : Ext w w3 := Ext.trans (Ext.hold2 he2 he1) hx3
  have hc3 := fun b o (hb : b < w.heap.size + 1) => hx3.cell (b := b) (o := o) (by first | omega | (simp; omega))
  have hg3 := fun b o (hb : b < w.heap.size + 1) => hx3.frozen (b := b) (o := o) (by first | omega | (simp; omega))
  rcases hr3 with ⟨hq3, hl3⟩ | ⟨hq3, hl3⟩
  rotate_left
  · obtain ⟨HQ, hlt⟩ : Hid (r3 = -1) ∧ r3 < 0 := ⟨hq3, by omega⟩
    clear hq3
    go_wp2
    go_ret
    exact ⟨-1, rfl, .inr ⟨rfl, by have := HB.out; omega⟩, (by (repeat' (first | (with_reducible exact Ext.refl _) | (with_reducible exact he3) | (with_reducible exact he2) | (with_reducible exact he1) | (with_reducible apply Ext.alloc) | (with_reducible apply Ext.drew) | (with_reducible refine Ext.setCell ?_ ?_ _))); all_goals (first | (simp; done) | (simp; omega) | omega))⟩
  have hl3z : 0 ≤ r3 := by omega
  have hl3m : r3 ≤ 1048576 := by omega
  have hl3q : r3 ≤ r2 - (Bulk.blk o.x : Nat) := by omega
  have hl3p : r2 - (Bulk.blk o.x : Nat) ≤ r3 := by omega
  clear hq3
  go_wp2_with fail
  refine (sz_TrmPoly o.y _ _ _ (hv4.ext (by (repeat' (first | (with_reducible exact Ext.refl _) | (with_reducible exact he3) | (with_reducible exact he2) | (with_reducible exact he1) | (with_reducible apply Ext.alloc) | (with_reducible apply Ext.drew) | (with_reducible refine Ext.setCell ?_ ?_ _))); all_goals (first | (simp; done) | (simp; omega) | omega))) (by omega) (by omega)).mono ?_
  rintro e w4 ⟨r4, rfl, hr4, hx4⟩
  have hs4 := hx4.size
  try simp at hs4
  have he4 : Ext w w4 := Ext.trans (by (repeat' (first | (with_reducible exact Ext.refl _) | (with_reducible exact he3) | (with_reducible exact he2) | (with_reducible exact he1) | (with_reducible apply Ext.alloc) | (with_reducible apply Ext.drew) | (with_reducible refine Ext.setCell ?_ ?_ _))); all_goals (first | (simp; done) | (simp; omega) | omega)) hx4
  have hc4 := fun b o (hb : b < w.heap.size + 1) => hx4.cell (b := b) (o := o) (by first | omega | (simp; omega))
  have hg4 := fun b o (hb : b < w.heap.size + 1) => hx4.frozen (b := b) (o := o) (by first | omega | (simp; omega))
  rcases hr4 with ⟨hq4, hl4⟩ | ⟨hq4, hl4⟩
  rotate_left
  · obtain ⟨HQ, hlt⟩ : Hid (r4 = -1) ∧ r4 < 0 := ⟨hq4, by omega⟩
    clear hq4
    go_wp2
    go_ret
    exact ⟨-1, rfl, .inr ⟨rfl, by have := HB.out; omega⟩, (by (repeat' (first | (with_reducible exact Ext.refl _) | (with_reducible exact he4) | (with_reducible exact he3) | (with_reducible exact he2) | (with_reducible exact he1) | (with_reducible apply Ext.alloc) | (with_reducible apply Ext.drew) | (with_reducible refine Ext.setCell ?_ ?_ _))); all_goals (first | (simp; done) | (simp; omega) | omega))⟩
  have hl4z : 0 ≤ r4 := by omega
  have hl4m : r4 ≤ 1048576 := by omega
  have hl4q : r4 ≤ r3 - (Bulk.blk o.y : Nat) := by omega
  have hl4p : r3 - (Bulk.blk o.y : Nat) ≤ r4 := by omega
  clear hq4
  go_wp2
  go_ret
  exact ⟨_, rfl, .inl ⟨by have := HB.out; omega, by have := HB.out; omega⟩, (by (repeat' (first | (with_reducible exact Ext.refl _) | (with_reducible exact he4) | (with_reducible exact he3) | (with_reducible exact he2) | (with_reducible exact he1) | (with_reducible apply Ext.alloc) | (with_reducible apply Ext.drew) | (with_reducible refine Ext.setCell ?_ ?_ _))); all_goals (first | (simp; done) | (simp; omega) | omega))⟩

end Go.Proofs.Ytdmbgljkogpmdaa
