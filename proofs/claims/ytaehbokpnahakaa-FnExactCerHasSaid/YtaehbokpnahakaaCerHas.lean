/-
  CerHas, of the reference and of the program: whether a pair of blocks is among some.
-/
import Derived.Test.YtaehbokpnahakaaIrSame
import Derived.Deep.RegionHeld3
namespace Go.Proofs.Ytaehbokpnahakaa
open Go.RowKit
set_option linter.unusedVariables false
set_option linter.unusedSimpArgs false

/-- Whether a pair is this one. -/
def pairIs (a b : IrBlock) (p : CerPair) : Bool := decide (p.base = a) && decide (p.made = b)
def cerHas (l : List CerPair) (a b : IrBlock) : Bool := l.any (pairIs a b)
theorem pairIs_yes {a b : IrBlock} {p : CerPair} (h : p.base = a) (k : p.made = b) : pairIs a b p = true := by simp [pairIs, h, k]
theorem pairIs_no1 {a b : IrBlock} {p : CerPair} (h : p.base ≠ a) : pairIs a b p = false := by simp [pairIs, h]
theorem pairIs_no2 {a b : IrBlock} {p : CerPair} (h : p.made ≠ b) : pairIs a b p = false := by simp [pairIs, h]
theorem any_hit {α : Type} (p : α → Bool) (l : List α) (k : Nat) (hk : k < l.length) (h : p l[k] = true) : l.any p = true := List.any_eq_true.2 ⟨_, List.getElem_mem hk, h⟩
theorem any_miss {α : Type} (p : α → Bool) (l : List α) (h : ∀ a, a ∈ l → p a = false) : l.any p = false := by
  rw [List.any_eq_false]; intro a ha; simp [h a ha]

set_option maxHeartbeats 1000000 in
theorem cerHasFn_any (o : CerPair) (a b : IrBlock) (v1 v2 u1 u2 : Value) (g1 g2 : Nat) (w : World) (hv1 : Sl w (Old w) v1 o.base.ops) (hv2 : Sl w (Old w) v2 o.made.ops) (hu1 : Sl w (Old w) u1 a.ops) (hu2 : Sl w (Old w) u2 b.ops)
    (m0 : w.cell? ⟨g1, 0, none⟩ = some (.int .i64 a.pc)) (m1 : w.cell? ⟨g1, 1, none⟩ = some (.int .i64 a.len)) (m2 : w.cell? ⟨g1, 2, none⟩ = some (u1)) (m3 : w.cell? ⟨g1, 3, none⟩ = some (.int .i64 a.fin)) (m4 : w.cell? ⟨g1, 4, none⟩ = some (.int .i64 a.x)) (m5 : w.cell? ⟨g1, 5, none⟩ = some (.int .i64 a.y)) (m6 : w.cell? ⟨g1, 6, none⟩ = some (.int .i64 a.k)) (n0 : w.cell? ⟨g2, 0, none⟩ = some (.int .i64 b.pc)) (n1 : w.cell? ⟨g2, 1, none⟩ = some (.int .i64 b.len)) (n2 : w.cell? ⟨g2, 2, none⟩ = some (u2)) (n3 : w.cell? ⟨g2, 3, none⟩ = some (.int .i64 b.fin)) (n4 : w.cell? ⟨g2, 4, none⟩ = some (.int .i64 b.x)) (n5 : w.cell? ⟨g2, 5, none⟩ = some (.int .i64 b.y)) (n6 : w.cell? ⟨g2, 6, none⟩ = some (.int .i64 b.k)) :
    Calls Try.prog 29 #[.agg #[.int .i64 o.base.pc, .int .i64 o.base.len, v1, .int .i64 o.base.fin, .int .i64 o.base.x, .int .i64 o.base.y, .int .i64 o.base.k, .int .i64 o.made.pc, .int .i64 o.made.len, v2, .int .i64 o.made.fin, .int .i64 o.made.x, .int .i64 o.made.y, .int .i64 o.made.k], .pointer (some ⟨g1, 0, none⟩), .pointer (some ⟨g2, 0, none⟩)] w fun e w' => e = .returned (.bool (pairIs a b o)) ∧ Ext w w' := by
  obtain ⟨Av1, cv1, rfl, -, -⟩ := hv1.form
  obtain ⟨Av2, cv2, rfl, -, -⟩ := hv2.form
  obtain ⟨Au1, cu1, rfl, -, -⟩ := hu1.form
  obtain ⟨Au2, cu2, rfl, -, -⟩ := hu2.form
  have hgl1 : g1 < w.heap.size := cell_lt m0
  have hgl2 : g2 < w.heap.size := cell_lt n0
  go_enter Try.func29, Try.ntmps29
  go_wp2_with fail
  refine (implIrSame_any o.base a _ _ _ (hv1.ext (by (repeat' (first | (with_reducible exact Ext.refl _) | (with_reducible apply Ext.alloc) | (with_reducible apply Ext.drewN) | (with_reducible apply Ext.drew) | (with_reducible refine Ext.setCell ?_ ?_ _))); all_goals (first | (simp; done) | (simp; omega) | omega))) (hu1.ext (by (repeat' (first | (with_reducible exact Ext.refl _) | (with_reducible apply Ext.alloc) | (with_reducible apply Ext.drewN) | (with_reducible apply Ext.drew) | (with_reducible refine Ext.setCell ?_ ?_ _))); all_goals (first | (simp; done) | (simp; omega) | omega)))).mono ?_
  rintro e w1 ⟨rfl, hx1⟩
  have he1 : Ext w w1 := Ext.trans (by (repeat' (first | (with_reducible exact Ext.refl _) | (with_reducible apply Ext.alloc) | (with_reducible apply Ext.drewN) | (with_reducible apply Ext.drew) | (with_reducible refine Ext.setCell ?_ ?_ _))); all_goals (first | (simp; done) | (simp; omega) | omega)) hx1
  have hs1 := hx1.size
  try simp at hs1
  have hc1 := fun b o (hb : b < w.heap.size + 1) => hx1.cell (b := b) (o := o) (by first | omega | (simp; omega))
  have q0 := (he1.cell (b := g2) (o := 0) hgl2).trans n0
  have q1 := (he1.cell (b := g2) (o := 1) hgl2).trans n1
  have q2 := (he1.cell (b := g2) (o := 2) hgl2).trans n2
  have q3 := (he1.cell (b := g2) (o := 3) hgl2).trans n3
  have q4 := (he1.cell (b := g2) (o := 4) hgl2).trans n4
  have q5 := (he1.cell (b := g2) (o := 5) hgl2).trans n5
  have q6 := (he1.cell (b := g2) (o := 6) hgl2).trans n6
  by_cases hq : o.base = a
  rotate_left
  · have d1 : decide (o.base = a) = false := by simp [hq]
    have HP := hide (pairIs_no1 (b := b) hq)
    clear hq
    go_wp2
    go_ret
    exact ⟨by rw [HP.out]; rfl, he1⟩
  have d1 : decide (o.base = a) = true := by simp [hq]
  have HQ := hide hq
  clear hq
  go_wp2_with fail
  refine (implIrSame_any o.made b _ _ _ (hv2.ext he1) (hu2.ext he1)).mono ?_
  rintro e w2 ⟨rfl, hx2⟩
  have he2 : Ext w w2 := Ext.trans he1 hx2
  by_cases hq : o.made = b
  · have d2 : decide (o.made = b) = true := by simp [hq]
    have HP := hide (pairIs_yes HQ.out hq)
    clear hq
    go_wp2
    go_ret
    exact ⟨by rw [HP.out]; rfl, he2⟩
  · have d2 : decide (o.made = b) = false := by simp [hq]
    have HP := hide (pairIs_no2 (a := a) hq)
    clear hq
    go_wp2
    go_ret
    exact ⟨by rw [HP.out]; rfl, he2⟩

set_option maxHeartbeats 1000000 in
theorem indexCerHas_any (l : List CerPair) (a b : IrBlock) (v u1 u2 : Value) (g1 g2 : Nat) (w : World) (h : Sl w (Old w) v l) (hu1 : Sl w (Old w) u1 a.ops) (hu2 : Sl w (Old w) u2 b.ops)
    (m0 : w.cell? ⟨g1, 0, none⟩ = some (.int .i64 a.pc)) (m1 : w.cell? ⟨g1, 1, none⟩ = some (.int .i64 a.len)) (m2 : w.cell? ⟨g1, 2, none⟩ = some (u1)) (m3 : w.cell? ⟨g1, 3, none⟩ = some (.int .i64 a.fin)) (m4 : w.cell? ⟨g1, 4, none⟩ = some (.int .i64 a.x)) (m5 : w.cell? ⟨g1, 5, none⟩ = some (.int .i64 a.y)) (m6 : w.cell? ⟨g1, 6, none⟩ = some (.int .i64 a.k)) (n0 : w.cell? ⟨g2, 0, none⟩ = some (.int .i64 b.pc)) (n1 : w.cell? ⟨g2, 1, none⟩ = some (.int .i64 b.len)) (n2 : w.cell? ⟨g2, 2, none⟩ = some (u2)) (n3 : w.cell? ⟨g2, 3, none⟩ = some (.int .i64 b.fin)) (n4 : w.cell? ⟨g2, 4, none⟩ = some (.int .i64 b.x)) (n5 : w.cell? ⟨g2, 5, none⟩ = some (.int .i64 b.y)) (n6 : w.cell? ⟨g2, 6, none⟩ = some (.int .i64 b.k)) :
    Calls Try.prog 37 #[v, .func (.func 29) #[] #[.pointer (some ⟨g1, 0, none⟩), .pointer (some ⟨g2, 0, none⟩)]] w fun e w' => ∃ r : Int, e = .returned (.int .i64 r) ∧ (decide (0 ≤ r)) = cerHas l a b ∧ Ext w w' := by
  obtain ⟨A, c, rfl, hl, hm⟩ := h.form
  unfold maxLen at hm
  have hgl1 : g1 < w.heap.size := cell_lt m0
  have hgl2 : g2 < w.heap.size := cell_lt n0
  have M0 := hide m0
  have N0 := hide n0
  have M1 := hide m1
  have N1 := hide n1
  have M2 := hide m2
  have N2 := hide n2
  have M3 := hide m3
  have N3 := hide n3
  have M4 := hide m4
  have N4 := hide n4
  have M5 := hide m5
  have N5 := hide n5
  have M6 := hide m6
  have N6 := hide n6
  clear m0 n0 m1 n1 m2 n2 m3 n3 m4 n4 m5 n5 m6 n6
  go_enter Try.func37, Try.ntmps37
  go_wp2
  go_loopw [5, 8] (fun _ i wr => ∃ k : Nat, k ≤ l.length ∧ i = .int .i64 k ∧ Hid (∀ q, q ∈ l.take k → pairIs a b q = false) ∧ Ext w wr) (fun _ i _ => l.length - (intOf i).toNat)
  case atStart => exact ⟨0, by omega, rfl, by intro a ha; simp at ha, Ext.refl _⟩
  case round =>
    obtain ⟨k, hk, rfl, HN, he⟩ := hrel
    by_cases hlt : k < l.length
    · obtain ⟨b0, off, v1, v2, rfl, hbo, hk0, hv1, hv2, e0, e1, e2, e3, e4, e5, e6, e7, e8, e9, e10, e11, e12, e13⟩ := at_CerPair (h.ext he) hlt
      have z0 : (0 : Int) ≤ (k : Int) := by omega
      have z1 : (k : Int) < (l.length : Int) := by omega
      go_wp2_with fail
      refine (cerHasFn_any l[k] a b _ _ _ _ g1 g2 _ hv1 hv2 (hu1.ext he) (hu2.ext he) ((he.cell hgl1).trans M0.out) ((he.cell hgl1).trans M1.out) ((he.cell hgl1).trans M2.out) ((he.cell hgl1).trans M3.out) ((he.cell hgl1).trans M4.out) ((he.cell hgl1).trans M5.out) ((he.cell hgl1).trans M6.out) ((he.cell hgl2).trans N0.out) ((he.cell hgl2).trans N1.out) ((he.cell hgl2).trans N2.out) ((he.cell hgl2).trans N3.out) ((he.cell hgl2).trans N4.out) ((he.cell hgl2).trans N5.out) ((he.cell hgl2).trans N6.out)).mono ?_
      rintro e w1 ⟨rfl, hx⟩
      have he1 := he.trans hx
      by_cases hq : pairIs a b l[k] = true
      · have HF := hide (any_hit _ l k hlt hq)
        go_wp2
        go_ret
        exact ⟨k, rfl, by rw [show cerHas l a b = true from HF.out]; simp, he1⟩
      · have hq : pairIs a b l[k] = false := by simpa using hq
        have HT := hide (take_next _ l k hlt HN.out hq)
        go_wp2
        go_roundw
        case rel => exact ⟨k + 1, by omega, by go_num, HT.out, he1⟩
        case measure => simp [intOf]; omega
    · obtain rfl : k = l.length := by omega
      have HF := hide (any_miss _ l (by have := HN.out; rwa [List.take_length] at this))
      go_wp2
      go_ret
      exact ⟨-1, rfl, by rw [show cerHas l a b = false from HF.out]; simp, he⟩

set_option maxHeartbeats 1000000 in
theorem containsCerHas_any (l : List CerPair) (a b : IrBlock) (v u1 u2 : Value) (g1 g2 : Nat) (w : World) (h : Sl w (Old w) v l) (hu1 : Sl w (Old w) u1 a.ops) (hu2 : Sl w (Old w) u2 b.ops)
    (m0 : w.cell? ⟨g1, 0, none⟩ = some (.int .i64 a.pc)) (m1 : w.cell? ⟨g1, 1, none⟩ = some (.int .i64 a.len)) (m2 : w.cell? ⟨g1, 2, none⟩ = some (u1)) (m3 : w.cell? ⟨g1, 3, none⟩ = some (.int .i64 a.fin)) (m4 : w.cell? ⟨g1, 4, none⟩ = some (.int .i64 a.x)) (m5 : w.cell? ⟨g1, 5, none⟩ = some (.int .i64 a.y)) (m6 : w.cell? ⟨g1, 6, none⟩ = some (.int .i64 a.k)) (n0 : w.cell? ⟨g2, 0, none⟩ = some (.int .i64 b.pc)) (n1 : w.cell? ⟨g2, 1, none⟩ = some (.int .i64 b.len)) (n2 : w.cell? ⟨g2, 2, none⟩ = some (u2)) (n3 : w.cell? ⟨g2, 3, none⟩ = some (.int .i64 b.fin)) (n4 : w.cell? ⟨g2, 4, none⟩ = some (.int .i64 b.x)) (n5 : w.cell? ⟨g2, 5, none⟩ = some (.int .i64 b.y)) (n6 : w.cell? ⟨g2, 6, none⟩ = some (.int .i64 b.k)) :
    Calls Try.prog 28 #[v, .func (.func 29) #[] #[.pointer (some ⟨g1, 0, none⟩), .pointer (some ⟨g2, 0, none⟩)]] w fun e w' => e = .returned (.bool (cerHas l a b)) ∧ Ext w w' := by
  obtain ⟨A, c, rfl, hl, hm⟩ := h.form
  go_enter Try.func28, Try.ntmps28
  go_wp2_with fail
  refine (indexCerHas_any l a b _ _ _ g1 g2 _ h hu1 hu2 m0 m1 m2 m3 m4 m5 m6 n0 n1 n2 n3 n4 n5 n6).mono ?_
  rintro e w1 ⟨r, rfl, hr, hx⟩
  have HR := hide hr
  clear hr
  by_cases hz : 0 ≤ r
  · have d : decide (0 ≤ r) = true := by simp [hz]
    have HD := hide d
    go_wp2
    go_ret
    exact ⟨by rw [← HR.out, HD.out]; rfl, hx⟩
  · have d : decide (0 ≤ r) = false := by simp [hz]
    have HD := hide d
    go_wp2
    go_ret
    exact ⟨by rw [← HR.out, HD.out]; rfl, hx⟩

set_option maxHeartbeats 1000000 in
theorem implCerHas_any (l : List CerPair) (a b : IrBlock) (v u1 u2 : Value) (w : World) (h : Sl w (Old w) v l) (hu1 : Sl w (Old w) u1 a.ops) (hu2 : Sl w (Old w) u2 b.ops) :
    Calls Try.prog 15 #[v, .agg #[.int .i64 a.pc, .int .i64 a.len, u1, .int .i64 a.fin, .int .i64 a.x, .int .i64 a.y, .int .i64 a.k], .agg #[.int .i64 b.pc, .int .i64 b.len, u2, .int .i64 b.fin, .int .i64 b.x, .int .i64 b.y, .int .i64 b.k]] w fun e w' => e = .returned (.bool (cerHas l a b)) ∧ Ext w w' := by
  obtain ⟨A, c, rfl, hl, hm⟩ := h.form
  obtain ⟨Au1, cu1, rfl, -, -⟩ := hu1.form
  obtain ⟨Au2, cu2, rfl, -, -⟩ := hu2.form
  go_enter Try.func15, Try.ntmps15
  go_wp2_with fail
  refine (containsCerHas_any l a b _ _ _ _ _ _ (h.ext (by (repeat' (first | (with_reducible exact Ext.refl _) | (with_reducible apply Ext.alloc) | (with_reducible apply Ext.drewN) | (with_reducible apply Ext.drew) | (with_reducible refine Ext.setCell ?_ ?_ _))); all_goals (first | (simp; done) | (simp; omega) | omega))) (hu1.ext (by (repeat' (first | (with_reducible exact Ext.refl _) | (with_reducible apply Ext.alloc) | (with_reducible apply Ext.drewN) | (with_reducible apply Ext.drew) | (with_reducible refine Ext.setCell ?_ ?_ _))); all_goals (first | (simp; done) | (simp; omega) | omega))) (hu2.ext (by (repeat' (first | (with_reducible exact Ext.refl _) | (with_reducible apply Ext.alloc) | (with_reducible apply Ext.drewN) | (with_reducible apply Ext.drew) | (with_reducible refine Ext.setCell ?_ ?_ _))); all_goals (first | (simp; done) | (simp; omega) | omega))) (by simp [go_sem]) (by simp [go_sem]) (by simp [go_sem]) (by simp [go_sem]) (by simp [go_sem]) (by simp [go_sem]) (by simp [go_sem]) (by simp [go_sem]) (by simp [go_sem]) (by simp [go_sem]) (by simp [go_sem]) (by simp [go_sem]) (by simp [go_sem]) (by simp [go_sem])).mono ?_
  rintro e w1 ⟨rfl, hx⟩
  go_wp2
  go_ret
  exact ⟨rfl, Ext.trans (by (repeat' (first | (with_reducible exact Ext.refl _) | (with_reducible apply Ext.alloc) | (with_reducible apply Ext.drewN) | (with_reducible apply Ext.drew) | (with_reducible refine Ext.setCell ?_ ?_ _))); all_goals (first | (simp; done) | (simp; omega) | omega)) hx⟩

theorem specIrSame_is (a b : IrBlock) (v1 u1 : Value) (w : World) (r : Bool) (hr : decide (a = b) = r) (hv1 : Sl w (Old w) v1 a.ops) (hu1 : Sl w (Old w) u1 b.ops) :
    Calls Try.prog 25 #[.agg #[.int .i64 a.pc, .int .i64 a.len, v1, .int .i64 a.fin, .int .i64 a.x, .int .i64 a.y, .int .i64 a.k], .agg #[.int .i64 b.pc, .int .i64 b.len, u1, .int .i64 b.fin, .int .i64 b.x, .int .i64 b.y, .int .i64 b.k]] w fun e w' => e = .returned (.bool r) ∧ Ext w w' := by
  subst hr; exact specIrSame_any a b v1 u1 w hv1 hu1

set_option maxHeartbeats 4000000 in
theorem specCerHas_any (l : List CerPair) (a b : IrBlock) (v u1 u2 : Value) (w : World) (h : Sl w (Old w) v l) (hu1 : Sl w (Old w) u1 a.ops) (hu2 : Sl w (Old w) u2 b.ops) :
    Calls Try.prog 12 #[v, .agg #[.int .i64 a.pc, .int .i64 a.len, u1, .int .i64 a.fin, .int .i64 a.x, .int .i64 a.y, .int .i64 a.k], .agg #[.int .i64 b.pc, .int .i64 b.len, u2, .int .i64 b.fin, .int .i64 b.x, .int .i64 b.y, .int .i64 b.k]] w fun e w' => e = .returned (.bool (cerHas l a b)) ∧ Ext w w' := by
  obtain ⟨A, c, rfl, hl, hm⟩ := h.form
  obtain ⟨Au1, cu1, rfl, -, -⟩ := hu1.form
  obtain ⟨Au2, cu2, rfl, -, -⟩ := hu2.form
  unfold maxLen at hm
  go_enter Try.func12, Try.ntmps12
  go_wp2
  go_loopw [7] (fun i wr => ∃ k : Nat, k ≤ l.length ∧ i = .int .i64 k ∧ Hid (∀ q, q ∈ l.take k → pairIs a b q = false) ∧ Ext ((w.alloc (.cells #[.int .i64 a.pc, .int .i64 a.len, .slice Au1 a.ops.length cu1, .int .i64 a.fin, .int .i64 a.x, .int .i64 a.y, .int .i64 a.k] 40)).alloc (.cells #[.int .i64 b.pc, .int .i64 b.len, .slice Au2 b.ops.length cu2, .int .i64 b.fin, .int .i64 b.x, .int .i64 b.y, .int .i64 b.k] 40)) wr) (fun i _ => l.length - (intOf i).toNat)
  case atStart => exact ⟨0, by omega, rfl, by intro a ha; simp at ha, Ext.refl _⟩
  case round =>
    obtain ⟨k, hk, rfl, HN, he0⟩ := hrel
    have he : Ext w wr := Ext.trans (by (repeat' (first | (with_reducible exact Ext.refl _) | (with_reducible apply Ext.alloc) | (with_reducible apply Ext.drewN) | (with_reducible apply Ext.drew) | (with_reducible refine Ext.setCell ?_ ?_ _))); all_goals (first | (simp; done) | (simp; omega) | omega)) he0
    have hs0 := he0.size
    try simp at hs0
    by_cases hlt : k < l.length
    · obtain ⟨b0, off, v1, v2, rfl, hbo, hk0, hv1, hv2, e0, e1, e2, e3, e4, e5, e6, e7, e8, e9, e10, e11, e12, e13⟩ := at_CerPair (h.ext he) hlt
      have hbr : b0 < wr.heap.size := hbo
      have hl1 : w.heap.size < wr.heap.size := by omega
      have hl2 : w.heap.size + 1 < wr.heap.size := by omega
      have x0 : wr.cell? ⟨w.heap.size, 0, none⟩ = some (.int .i64 a.pc) := by rw [he0.cell (by simp; omega)]; simp [go_sem]
      have x1 : wr.cell? ⟨w.heap.size, 1, none⟩ = some (.int .i64 a.len) := by rw [he0.cell (by simp; omega)]; simp [go_sem]
      have x2 : wr.cell? ⟨w.heap.size, 2, none⟩ = some (.slice Au1 a.ops.length cu1) := by rw [he0.cell (by simp; omega)]; simp [go_sem]
      have x3 : wr.cell? ⟨w.heap.size, 3, none⟩ = some (.int .i64 a.fin) := by rw [he0.cell (by simp; omega)]; simp [go_sem]
      have x4 : wr.cell? ⟨w.heap.size, 4, none⟩ = some (.int .i64 a.x) := by rw [he0.cell (by simp; omega)]; simp [go_sem]
      have x5 : wr.cell? ⟨w.heap.size, 5, none⟩ = some (.int .i64 a.y) := by rw [he0.cell (by simp; omega)]; simp [go_sem]
      have x6 : wr.cell? ⟨w.heap.size, 6, none⟩ = some (.int .i64 a.k) := by rw [he0.cell (by simp; omega)]; simp [go_sem]
      have y0 : wr.cell? ⟨w.heap.size + 1, 0, none⟩ = some (.int .i64 b.pc) := by rw [he0.cell (by simp)]; simp [go_sem]
      have y1 : wr.cell? ⟨w.heap.size + 1, 1, none⟩ = some (.int .i64 b.len) := by rw [he0.cell (by simp)]; simp [go_sem]
      have y2 : wr.cell? ⟨w.heap.size + 1, 2, none⟩ = some (.slice Au2 b.ops.length cu2) := by rw [he0.cell (by simp)]; simp [go_sem]
      have y3 : wr.cell? ⟨w.heap.size + 1, 3, none⟩ = some (.int .i64 b.fin) := by rw [he0.cell (by simp)]; simp [go_sem]
      have y4 : wr.cell? ⟨w.heap.size + 1, 4, none⟩ = some (.int .i64 b.x) := by rw [he0.cell (by simp)]; simp [go_sem]
      have y5 : wr.cell? ⟨w.heap.size + 1, 5, none⟩ = some (.int .i64 b.y) := by rw [he0.cell (by simp)]; simp [go_sem]
      have y6 : wr.cell? ⟨w.heap.size + 1, 6, none⟩ = some (.int .i64 b.k) := by rw [he0.cell (by simp)]; simp [go_sem]
      have z0 : (0 : Int) ≤ (k : Int) := by omega
      have z1 : (k : Int) < (l.length : Int) := by omega
      have hu1' := hu1.ext he
      have hu2' := hu2.ext he
      obtain ⟨Av1, cv1, rfl, -, -⟩ := hv1.form
      obtain ⟨Av2, cv2, rfl, -, -⟩ := hv2.form
      have hgr := fun (x : Grow wr) b o (hb : b < wr.heap.size) => x.cell b o hb
      by_cases hq1 : l[k].base = a
      · have d1 : decide (l[k].base = a) = true := by simp [hq1]
        by_cases hq2 : l[k].made = b
        · have HF := hide (any_hit _ l k hlt (pairIs_yes hq1 hq2))
          have d2 : decide (l[k].made = b) = true := by simp [hq2]
          clear hq1 hq2
          go_wp2_with fail
          refine region_grow (by kernel_rfl) (by kernel_rfl) ?_
          repeat (go_big_quiet_step (first | (go_at_call 25; with_reducible exact Calls.grow (specIrSame_is l[k].base a _ _ _ _ d1 (hv1.ext (Grow.ext _)) (hu1'.ext (Grow.ext _)))) | (go_at_call 25; with_reducible exact Calls.grow (specIrSame_is l[k].made b _ _ _ _ d2 (hv2.ext (Grow.ext _)) (hu2'.ext (Grow.ext _))))))
          refine wpQuiet_nil ?_
          rintro _ ⟨x, rfl⟩
          go_wp2
          go_ret
          exact ⟨by rw [show cerHas l a b = true from HF.out]; rfl, he.trans x.ext⟩
        · have HT := hide (take_next _ l k hlt HN.out (pairIs_no2 (a := a) hq2))
          have d2 : decide (l[k].made = b) = false := by simp [hq2]
          clear hq1 hq2
          go_wp2_with fail
          refine region_grow (by kernel_rfl) (by kernel_rfl) ?_
          repeat (go_big_quiet_step (first | (go_at_call 25; with_reducible exact Calls.grow (specIrSame_is l[k].base a _ _ _ _ d1 (hv1.ext (Grow.ext _)) (hu1'.ext (Grow.ext _)))) | (go_at_call 25; with_reducible exact Calls.grow (specIrSame_is l[k].made b _ _ _ _ d2 (hv2.ext (Grow.ext _)) (hu2'.ext (Grow.ext _))))))
          refine wpQuiet_nil ?_
          rintro _ ⟨x, rfl⟩
          go_wp2
          go_roundw
          case rel => exact ⟨k + 1, by omega, by go_num, HT.out, he0.trans x.ext⟩
          case measure => simp [intOf]; omega
      · have d1 : decide (l[k].base = a) = false := by simp [hq1]
        have HT := hide (take_next _ l k hlt HN.out (pairIs_no1 (b := b) hq1))
        clear hq1
        go_wp2_with fail
        refine region_grow (by kernel_rfl) (by kernel_rfl) ?_
        repeat (go_big_quiet_step (first | (go_at_call 25; with_reducible exact Calls.grow (specIrSame_is l[k].base a _ _ _ _ d1 (hv1.ext (Grow.ext _)) (hu1'.ext (Grow.ext _)))) | (go_at_call 25; with_reducible exact Calls.grow (specIrSame_is l[k].made b _ _ _ _ d2 (hv2.ext (Grow.ext _)) (hu2'.ext (Grow.ext _))))))
        refine wpQuiet_nil ?_
        rintro _ ⟨x, rfl⟩
        go_wp2
        go_roundw
        case rel => exact ⟨k + 1, by omega, by go_num, HT.out, he0.trans x.ext⟩
        case measure => simp [intOf]; omega
    · obtain rfl : k = l.length := by omega
      have HF := hide (any_miss _ l (by have := HN.out; rwa [List.take_length] at this))
      go_wp2
      go_ret
      exact ⟨by rw [show cerHas l a b = false from HF.out]; rfl, he⟩

end Go.Proofs.Ytaehbokpnahakaa
