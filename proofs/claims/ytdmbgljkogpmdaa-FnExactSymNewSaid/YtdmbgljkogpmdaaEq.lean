/-
  The laws hold two values against each other (eq..): the answer is whether they read as one.
-/
import Derived.Test.YtdmbgljkogpmdaaRows
import Derived.Test.YtdmbgljkogpmdaaTy
import Derived.Deep.QuietTactic
import Derived.BigQuiet
import Derived.StillTailTactics
namespace Go.Proofs.Ytdmbgljkogpmdaa
open Go.RowKit

set_option linter.unusedVariables false
set_option linter.unusedSimpArgs false
set_option maxRecDepth 100000

set_option maxHeartbeats 1000000 in
theorem eq_ListInt (la lb : List Int) (va vb : Value) (w : World) (ha : Sl w (Old w) va la) (hb : Sl w (Old w) vb lb) :
    Calls Try.prog 116 #[va, vb] w fun e w' => e = .returned (.bool (decide (la = lb))) ∧ Ext w w' := by
  obtain ⟨A, ca, rfl, hla, hma⟩ := ha.form
  obtain ⟨B, cb, rfl, hlb, hmb⟩ := hb.form
  unfold maxLen at hma hmb
  by_cases hl : la.length = lb.length
  · have hn : ((la.length : Int) != (lb.length : Int)) = false := by simp [hl]
    have HL := hide hl
    clear hl
    go_enter Try.func116, Try.ntmps116
    go_wp2
    go_loopw [5] (fun i wr => ∃ k : Nat, k ≤ la.length ∧ i = .int .i64 k ∧ Ext w wr ∧ la.take k = lb.take k) (fun i _ => la.length - (intOf i).toNat)
    case atStart => exact ⟨0, by omega, rfl, Ext.refl _, rfl⟩
    case round =>
      obtain ⟨k, hk, rfl, he, ht⟩ := hrel
      have HT := hide ht
      clear ht
      by_cases hlt : k < la.length
      · have hlt' : k < lb.length := by have := HL.out; omega
        obtain ⟨b, off, rfl, hbo, hk0, e0⟩ := at_Int (ha.ext he) hlt
        obtain ⟨b', off', rfl, hbo', hk1, g0⟩ := at_Int (hb.ext he) hlt'
        have z0 : (0 : Int) ≤ (k : Int) := by omega
        have z1 : (k : Int) < (la.length : Int) := by omega
        have z2 : (k : Int) < (lb.length : Int) := by omega
        have TS := hide (take_both la lb k hlt hlt' HT.out)
        go_wp2_with fail
        by_cases hq : la[k] = lb[k]
        · have d1 : (la[k] != lb[k]) = false := by simp [hq]
          have HQ := hide hq
          clear hq
          go_quiet (fail)
          go_wp2
          go_roundw
          case rel => exact ⟨k + 1, by omega, by go_num, he.drewN _, TS.out.1 HQ.out⟩
          case measure => simp [intOf]; omega
        · have d1 : (la[k] != lb[k]) = true := by simp [hq]
          have HQ := hide hq
          clear hq
          go_quiet (fail)
          go_wp2
          go_ret
          exact ⟨ret_no (TS.out.2 HQ.out), he.drewN _⟩
      · obtain rfl : k = la.length := by omega
        go_wp2
        go_ret
        exact ⟨ret_yes (take_all la lb HL.out HT.out), he⟩
  · have hn : ((la.length : Int) != (lb.length : Int)) = true := by simp; omega
    have HL := hide hl
    clear hl
    go_enter Try.func116, Try.ntmps116
    go_wp2
    go_ret
    exact ⟨ret_no (fun e => HL.out (by rw [e])), Ext.refl _⟩

set_option maxHeartbeats 1000000 in
theorem eq_TrmMono (a b : TrmMono) (v1 u1 : Value) (w : World) (hv1 : Sl w (Old w) v1 a.atoms) (hu1 : Sl w (Old w) u1 b.atoms):
    Calls Try.prog 100 #[.agg #[.int .i64 a.coef, v1], .agg #[.int .i64 b.coef, u1]] w fun e w' => e = .returned (.bool (decide (a = b))) ∧ Ext w w' := by
  obtain ⟨Av1, cv1, rfl, -, -⟩ := hv1.form
  obtain ⟨Au1, cu1, rfl, -, -⟩ := hu1.form
  go_enter Try.func100, Try.ntmps100
  by_cases h1 : a.coef = b.coef
  rotate_left
  · have d1 : (a.coef != b.coef) = true := by simp [h1]
    have H1 := hide h1
    clear h1
    go_wp2
    go_ret
    exact ⟨ret_no (fun e => H1.out (by rw [e])), (Ext.auto)⟩
  have d1 : (a.coef != b.coef) = false := by simp [h1]
  have H1 := hide h1
  clear h1
  go_wp2_with fail
  refine (eq_ListInt a.atoms b.atoms _ _ _ (hv1.ext (Ext.auto)) (hu1.ext (Ext.auto))).mono ?_
  rintro e w1 ⟨rfl, hx1⟩
  have hs1 := hx1.size
  try simp at hs1
  have he1 : Ext w w1 := Ext.trans (Ext.auto) hx1
  have hc1 := fun b o (hb : b < w.heap.size + 1 + 1) => hx1.cell (b := b) (o := o) (by first | omega | (simp; omega))
  have hg1 := fun b o (hb : b < w.heap.size + 1 + 1) => hx1.frozen (b := b) (o := o) (by first | omega | (simp; omega))
  by_cases h2 : a.atoms = b.atoms
  rotate_left
  · have d2 : decide (a.atoms = b.atoms) = false := by simp [h2]
    have H2 := hide h2
    clear h2
    go_wp2
    go_ret
    exact ⟨ret_no (fun e => H2.out (by rw [e])), (Ext.hold he1)⟩
  have d2 : decide (a.atoms = b.atoms) = true := by simp [h2]
  have H2 := hide h2
  clear h2
  go_wp2
  go_ret
  exact ⟨ret_yes ((TrmMono.eq_iff a b).2 ⟨H1.out, H2.out⟩), (Ext.hold he1)⟩

set_option maxHeartbeats 1000000 in
theorem eq_ListTrmMono (la lb : List TrmMono) (va vb : Value) (w : World) (ha : Sl w (Old w) va la) (hb : Sl w (Old w) vb lb) :
    Calls Try.prog 71 #[va, vb] w fun e w' => e = .returned (.bool (decide (la = lb))) ∧ Ext w w' := by
  obtain ⟨A, ca, rfl, hla, hma⟩ := ha.form
  obtain ⟨B, cb, rfl, hlb, hmb⟩ := hb.form
  unfold maxLen at hma hmb
  by_cases hl : la.length = lb.length
  · have hn : ((la.length : Int) != (lb.length : Int)) = false := by simp [hl]
    have HL := hide hl
    clear hl
    go_enter Try.func71, Try.ntmps71
    go_wp2
    go_loopw [5] (fun i wr => ∃ k : Nat, k ≤ la.length ∧ i = .int .i64 k ∧ Ext w wr ∧ la.take k = lb.take k) (fun i _ => la.length - (intOf i).toNat)
    case atStart => exact ⟨0, by omega, rfl, Ext.refl _, rfl⟩
    case round =>
      obtain ⟨k, hk, rfl, he, ht⟩ := hrel
      have HT := hide ht
      clear ht
      by_cases hlt : k < la.length
      · have hlt' : k < lb.length := by have := HL.out; omega
        obtain ⟨b, off, v1, rfl, hbo, hk0, hv1, e0, e1⟩ := at_TrmMono (ha.ext he) hlt
        obtain ⟨b', off', u1, rfl, hbo', hk1, hu1, g0, g1⟩ := at_TrmMono (hb.ext he) hlt'
        have z0 : (0 : Int) ≤ (k : Int) := by omega
        have z1 : (k : Int) < (la.length : Int) := by omega
        have z2 : (k : Int) < (lb.length : Int) := by omega
        have TS := hide (take_both la lb k hlt hlt' HT.out)
        go_wp2_with fail
        go_still_tail 8, (by kernel_rfl)
        change wpList _ _ _ _ _ wr.drew
        go_wp2_with fail
        refine (eq_TrmMono la[k] lb[k] _ _ _ (hv1.ext (Ext.refl _).drew) (hu1.ext (Ext.refl _).drew)).mono ?_
        rintro e w1 ⟨rfl, hx⟩
        have he1 : Ext w w1 := Ext.trans he.drew hx
        by_cases hq : la[k] = lb[k]
        · have d1 : decide (la[k] = lb[k]) = true := by simp [hq]
          have HQ := hide hq
          clear hq
          go_wp2
          go_roundw
          case rel => exact ⟨k + 1, by omega, by go_num, he1, TS.out.1 HQ.out⟩
          case measure => simp [intOf]; omega
        · have d1 : decide (la[k] = lb[k]) = false := by simp [hq]
          have HQ := hide hq
          clear hq
          go_wp2
          go_ret
          exact ⟨ret_no (TS.out.2 HQ.out), he1⟩
      · obtain rfl : k = la.length := by omega
        go_wp2
        go_ret
        exact ⟨ret_yes (take_all la lb HL.out HT.out), he⟩
  · have hn : ((la.length : Int) != (lb.length : Int)) = true := by simp; omega
    have HL := hide hl
    clear hl
    go_enter Try.func71, Try.ntmps71
    go_wp2
    go_ret
    exact ⟨ret_no (fun e => HL.out (by rw [e])), Ext.refl _⟩

set_option maxHeartbeats 1000000 in
theorem eq_TrmPoly (a b : TrmPoly) (v1 u1 : Value) (w : World) (hv1 : Sl w (Old w) v1 a.monos) (hu1 : Sl w (Old w) u1 b.monos):
    Calls Try.prog 33 #[.agg #[v1], .agg #[u1]] w fun e w' => e = .returned (.bool (decide (a = b))) ∧ Ext w w' := by
  obtain ⟨Av1, cv1, rfl, -, -⟩ := hv1.form
  obtain ⟨Au1, cu1, rfl, -, -⟩ := hu1.form
  go_enter Try.func33, Try.ntmps33
  go_wp2_with fail
  refine (eq_ListTrmMono a.monos b.monos _ _ _ (hv1.ext (Ext.auto)) (hu1.ext (Ext.auto))).mono ?_
  rintro e w1 ⟨rfl, hx1⟩
  have hs1 := hx1.size
  try simp at hs1
  have he1 : Ext w w1 := Ext.trans (Ext.auto) hx1
  have hc1 := fun b o (hb : b < w.heap.size + 1 + 1) => hx1.cell (b := b) (o := o) (by first | omega | (simp; omega))
  have hg1 := fun b o (hb : b < w.heap.size + 1 + 1) => hx1.frozen (b := b) (o := o) (by first | omega | (simp; omega))
  by_cases h1 : a.monos = b.monos
  rotate_left
  · have d1 : decide (a.monos = b.monos) = false := by simp [h1]
    have H1 := hide h1
    clear h1
    go_wp2
    go_ret
    exact ⟨ret_no (fun e => H1.out (by rw [e])), (Ext.hold he1)⟩
  have d1 : decide (a.monos = b.monos) = true := by simp [h1]
  have H1 := hide h1
  clear h1
  go_wp2
  go_ret
  exact ⟨ret_yes ((TrmPoly.eq_iff a b).2 H1.out), (Ext.hold he1)⟩

set_option maxHeartbeats 1000000 in
theorem eq_ListTrmPoly (la lb : List TrmPoly) (va vb : Value) (w : World) (ha : Sl w (Old w) va la) (hb : Sl w (Old w) vb lb) :
    Calls Try.prog 9 #[va, vb] w fun e w' => e = .returned (.bool (decide (la = lb))) ∧ Ext w w' := by
  obtain ⟨A, ca, rfl, hla, hma⟩ := ha.form
  obtain ⟨B, cb, rfl, hlb, hmb⟩ := hb.form
  unfold maxLen at hma hmb
  by_cases hl : la.length = lb.length
  · have hn : ((la.length : Int) != (lb.length : Int)) = false := by simp [hl]
    have HL := hide hl
    clear hl
    go_enter Try.func9, Try.ntmps9
    go_wp2
    go_loopw [5] (fun i wr => ∃ k : Nat, k ≤ la.length ∧ i = .int .i64 k ∧ Ext w wr ∧ la.take k = lb.take k) (fun i _ => la.length - (intOf i).toNat)
    case atStart => exact ⟨0, by omega, rfl, Ext.refl _, rfl⟩
    case round =>
      obtain ⟨k, hk, rfl, he, ht⟩ := hrel
      have HT := hide ht
      clear ht
      by_cases hlt : k < la.length
      · have hlt' : k < lb.length := by have := HL.out; omega
        obtain ⟨b, off, v1, rfl, hbo, hk0, hv1, e0⟩ := at_TrmPoly (ha.ext he) hlt
        obtain ⟨b', off', u1, rfl, hbo', hk1, hu1, g0⟩ := at_TrmPoly (hb.ext he) hlt'
        have z0 : (0 : Int) ≤ (k : Int) := by omega
        have z1 : (k : Int) < (la.length : Int) := by omega
        have z2 : (k : Int) < (lb.length : Int) := by omega
        have TS := hide (take_both la lb k hlt hlt' HT.out)
        go_wp2_with fail
        go_still_tail 8, (by kernel_rfl)
        change wpList _ _ _ _ _ wr.drew
        go_wp2_with fail
        refine (eq_TrmPoly la[k] lb[k] _ _ _ (hv1.ext (Ext.refl _).drew) (hu1.ext (Ext.refl _).drew)).mono ?_
        rintro e w1 ⟨rfl, hx⟩
        have he1 : Ext w w1 := Ext.trans he.drew hx
        by_cases hq : la[k] = lb[k]
        · have d1 : decide (la[k] = lb[k]) = true := by simp [hq]
          have HQ := hide hq
          clear hq
          go_wp2
          go_roundw
          case rel => exact ⟨k + 1, by omega, by go_num, he1, TS.out.1 HQ.out⟩
          case measure => simp [intOf]; omega
        · have d1 : decide (la[k] = lb[k]) = false := by simp [hq]
          have HQ := hide hq
          clear hq
          go_wp2
          go_ret
          exact ⟨ret_no (TS.out.2 HQ.out), he1⟩
      · obtain rfl : k = la.length := by omega
        go_wp2
        go_ret
        exact ⟨ret_yes (take_all la lb HL.out HT.out), he⟩
  · have hn : ((la.length : Int) != (lb.length : Int)) = true := by simp; omega
    have HL := hide hl
    clear hl
    go_enter Try.func9, Try.ntmps9
    go_wp2
    go_ret
    exact ⟨ret_no (fun e => HL.out (by rw [e])), Ext.refl _⟩

set_option maxHeartbeats 1000000 in
theorem eq_TabAtom (a b : TabAtom) (v1 v2 u1 u2 : Value) (w : World) (hv1 : Sl w (Old w) v1 a.x.monos) (hv2 : Sl w (Old w) v2 a.y.monos) (hu1 : Sl w (Old w) u1 b.x.monos) (hu2 : Sl w (Old w) u2 b.y.monos):
    Calls Try.prog 20 #[.agg #[.int .i64 a.kind, .int .i64 a.k, v1, v2], .agg #[.int .i64 b.kind, .int .i64 b.k, u1, u2]] w fun e w' => e = .returned (.bool (decide (a = b))) ∧ Ext w w' := by
  obtain ⟨Av1, cv1, rfl, -, -⟩ := hv1.form
  obtain ⟨Av2, cv2, rfl, -, -⟩ := hv2.form
  obtain ⟨Au1, cu1, rfl, -, -⟩ := hu1.form
  obtain ⟨Au2, cu2, rfl, -, -⟩ := hu2.form
  go_enter Try.func20, Try.ntmps20
  by_cases h1 : a.kind = b.kind
  rotate_left
  · have d1 : (a.kind != b.kind) = true := by simp [h1]
    have H1 := hide h1
    clear h1
    go_wp2
    go_ret
    exact ⟨ret_no (fun e => H1.out (by rw [e])), (Ext.auto)⟩
  have d1 : (a.kind != b.kind) = false := by simp [h1]
  have H1 := hide h1
  clear h1
  by_cases h2 : a.k = b.k
  rotate_left
  · have d2 : (a.k != b.k) = true := by simp [h2]
    have H2 := hide h2
    clear h2
    go_wp2
    go_ret
    exact ⟨ret_no (fun e => H2.out (by rw [e])), (Ext.auto)⟩
  have d2 : (a.k != b.k) = false := by simp [h2]
  have H2 := hide h2
  clear h2
  go_wp2_with fail
  refine (eq_TrmPoly a.x b.x _ _ _ (hv1.ext (Ext.auto)) (hu1.ext (Ext.auto))).mono ?_
  rintro e w1 ⟨rfl, hx1⟩
  have hs1 := hx1.size
  try simp at hs1
  have he1 : Ext w w1 := Ext.trans (Ext.auto) hx1
  have hc1 := fun b o (hb : b < w.heap.size + 1 + 1) => hx1.cell (b := b) (o := o) (by first | omega | (simp; omega))
  have hg1 := fun b o (hb : b < w.heap.size + 1 + 1) => hx1.frozen (b := b) (o := o) (by first | omega | (simp; omega))
  by_cases h3 : a.x = b.x
  rotate_left
  · have d3 : decide (a.x = b.x) = false := by simp [h3]
    have H3 := hide h3
    clear h3
    go_wp2
    go_ret
    exact ⟨ret_no (fun e => H3.out (by rw [e])), (Ext.hold he1)⟩
  have d3 : decide (a.x = b.x) = true := by simp [h3]
  have H3 := hide h3
  clear h3
  go_wp2_with fail
  refine (eq_TrmPoly a.y b.y _ _ _ (hv2.ext (Ext.hold he1)) (hu2.ext (Ext.hold he1))).mono ?_
  rintro e w2 ⟨rfl, hx2⟩
  have hs2 := hx2.size
  try simp at hs2
  have he2 : Ext w w2 := Ext.trans (Ext.hold he1) hx2
  have hc2 := fun b o (hb : b < w.heap.size + 1 + 1) => hx2.cell (b := b) (o := o) (by first | omega | (simp; omega))
  have hg2 := fun b o (hb : b < w.heap.size + 1 + 1) => hx2.frozen (b := b) (o := o) (by first | omega | (simp; omega))
  by_cases h4 : a.y = b.y
  rotate_left
  · have d4 : decide (a.y = b.y) = false := by simp [h4]
    have H4 := hide h4
    clear h4
    go_wp2
    go_ret
    exact ⟨ret_no (fun e => H4.out (by rw [e])), (Ext.hold2 he2 he1)⟩
  have d4 : decide (a.y = b.y) = true := by simp [h4]
  have H4 := hide h4
  clear h4
  go_wp2
  go_ret
  exact ⟨ret_yes ((TabAtom.eq_iff a b).2 ⟨H1.out, H2.out, H3.out, H4.out⟩), (Ext.hold2 he2 he1)⟩

set_option maxHeartbeats 1000000 in
theorem eq_ListTabAtom (la lb : List TabAtom) (va vb : Value) (w : World) (ha : Sl w (Old w) va la) (hb : Sl w (Old w) vb lb) :
    Calls Try.prog 32 #[va, vb] w fun e w' => e = .returned (.bool (decide (la = lb))) ∧ Ext w w' := by
  obtain ⟨A, ca, rfl, hla, hma⟩ := ha.form
  obtain ⟨B, cb, rfl, hlb, hmb⟩ := hb.form
  unfold maxLen at hma hmb
  by_cases hl : la.length = lb.length
  · have hn : ((la.length : Int) != (lb.length : Int)) = false := by simp [hl]
    have HL := hide hl
    clear hl
    go_enter Try.func32, Try.ntmps32
    go_wp2
    go_loopw [5] (fun i wr => ∃ k : Nat, k ≤ la.length ∧ i = .int .i64 k ∧ Ext w wr ∧ la.take k = lb.take k) (fun i _ => la.length - (intOf i).toNat)
    case atStart => exact ⟨0, by omega, rfl, Ext.refl _, rfl⟩
    case round =>
      obtain ⟨k, hk, rfl, he, ht⟩ := hrel
      have HT := hide ht
      clear ht
      by_cases hlt : k < la.length
      · have hlt' : k < lb.length := by have := HL.out; omega
        obtain ⟨b, off, v1, v2, rfl, hbo, hk0, hv1, hv2, e0, e1, e2, e3⟩ := at_TabAtom (ha.ext he) hlt
        obtain ⟨b', off', u1, u2, rfl, hbo', hk1, hu1, hu2, g0, g1, g2, g3⟩ := at_TabAtom (hb.ext he) hlt'
        have z0 : (0 : Int) ≤ (k : Int) := by omega
        have z1 : (k : Int) < (la.length : Int) := by omega
        have z2 : (k : Int) < (lb.length : Int) := by omega
        have TS := hide (take_both la lb k hlt hlt' HT.out)
        go_wp2_with fail
        go_still_tail 8, (by kernel_rfl)
        change wpList _ _ _ _ _ wr.drew
        go_wp2_with fail
        refine (eq_TabAtom la[k] lb[k] _ _ _ _ _ (hv1.ext (Ext.refl _).drew) (hv2.ext (Ext.refl _).drew) (hu1.ext (Ext.refl _).drew) (hu2.ext (Ext.refl _).drew)).mono ?_
        rintro e w1 ⟨rfl, hx⟩
        have he1 : Ext w w1 := Ext.trans he.drew hx
        by_cases hq : la[k] = lb[k]
        · have d1 : decide (la[k] = lb[k]) = true := by simp [hq]
          have HQ := hide hq
          clear hq
          go_wp2
          go_roundw
          case rel => exact ⟨k + 1, by omega, by go_num, he1, TS.out.1 HQ.out⟩
          case measure => simp [intOf]; omega
        · have d1 : decide (la[k] = lb[k]) = false := by simp [hq]
          have HQ := hide hq
          clear hq
          go_wp2
          go_ret
          exact ⟨ret_no (TS.out.2 HQ.out), he1⟩
      · obtain rfl : k = la.length := by omega
        go_wp2
        go_ret
        exact ⟨ret_yes (take_all la lb HL.out HT.out), he⟩
  · have hn : ((la.length : Int) != (lb.length : Int)) = true := by simp; omega
    have HL := hide hl
    clear hl
    go_enter Try.func32, Try.ntmps32
    go_wp2
    go_ret
    exact ⟨ret_no (fun e => HL.out (by rw [e])), Ext.refl _⟩

set_option maxHeartbeats 1000000 in
theorem eq_TabTab (a b : TabTab) (v1 u1 : Value) (w : World) (hv1 : Sl w (Old w) v1 a.atoms) (hu1 : Sl w (Old w) u1 b.atoms):
    Calls Try.prog 8 #[.agg #[v1], .agg #[u1]] w fun e w' => e = .returned (.bool (decide (a = b))) ∧ Ext w w' := by
  obtain ⟨Av1, cv1, rfl, -, -⟩ := hv1.form
  obtain ⟨Au1, cu1, rfl, -, -⟩ := hu1.form
  go_enter Try.func8, Try.ntmps8
  go_wp2_with fail
  refine (eq_ListTabAtom a.atoms b.atoms _ _ _ (hv1.ext (Ext.auto)) (hu1.ext (Ext.auto))).mono ?_
  rintro e w1 ⟨rfl, hx1⟩
  have hs1 := hx1.size
  try simp at hs1
  have he1 : Ext w w1 := Ext.trans (Ext.auto) hx1
  have hc1 := fun b o (hb : b < w.heap.size + 1 + 1) => hx1.cell (b := b) (o := o) (by first | omega | (simp; omega))
  have hg1 := fun b o (hb : b < w.heap.size + 1 + 1) => hx1.frozen (b := b) (o := o) (by first | omega | (simp; omega))
  by_cases h1 : a.atoms = b.atoms
  rotate_left
  · have d1 : decide (a.atoms = b.atoms) = false := by simp [h1]
    have H1 := hide h1
    clear h1
    go_wp2
    go_ret
    exact ⟨ret_no (fun e => H1.out (by rw [e])), (Ext.hold he1)⟩
  have d1 : decide (a.atoms = b.atoms) = true := by simp [h1]
  have H1 := hide h1
  clear h1
  go_wp2
  go_ret
  exact ⟨ret_yes ((TabTab.eq_iff a b).2 H1.out), (Ext.hold he1)⟩

set_option maxHeartbeats 1000000 in
theorem eq_SymEvent (a b : SymEvent) (v1 v2 v3 u1 u2 u3 : Value) (w : World) (hv1 : Sl w (Old w) v1 a.x.monos) (hv2 : Sl w (Old w) v2 a.y.monos) (hv3 : Sl w (Old w) v3 a.regs) (hu1 : Sl w (Old w) u1 b.x.monos) (hu2 : Sl w (Old w) u2 b.y.monos) (hu3 : Sl w (Old w) u3 b.regs):
    Calls Try.prog 97 #[.agg #[.int .i64 a.kind, .int .i64 a.at_, v1, v2, v3], .agg #[.int .i64 b.kind, .int .i64 b.at_, u1, u2, u3]] w fun e w' => e = .returned (.bool (decide (a = b))) ∧ Ext w w' := by
  obtain ⟨Av1, cv1, rfl, -, -⟩ := hv1.form
  obtain ⟨Av2, cv2, rfl, -, -⟩ := hv2.form
  obtain ⟨Av3, cv3, rfl, -, -⟩ := hv3.form
  obtain ⟨Au1, cu1, rfl, -, -⟩ := hu1.form
  obtain ⟨Au2, cu2, rfl, -, -⟩ := hu2.form
  obtain ⟨Au3, cu3, rfl, -, -⟩ := hu3.form
  go_enter Try.func97, Try.ntmps97
  by_cases h1 : a.kind = b.kind
  rotate_left
  · have d1 : (a.kind != b.kind) = true := by simp [h1]
    have H1 := hide h1
    clear h1
    go_wp2
    go_ret
    exact ⟨ret_no (fun e => H1.out (by rw [e])), (Ext.auto)⟩
  have d1 : (a.kind != b.kind) = false := by simp [h1]
  have H1 := hide h1
  clear h1
  by_cases h2 : a.at_ = b.at_
  rotate_left
  · have d2 : (a.at_ != b.at_) = true := by simp [h2]
    have H2 := hide h2
    clear h2
    go_wp2
    go_ret
    exact ⟨ret_no (fun e => H2.out (by rw [e])), (Ext.auto)⟩
  have d2 : (a.at_ != b.at_) = false := by simp [h2]
  have H2 := hide h2
  clear h2
  go_wp2_with fail
  refine (eq_TrmPoly a.x b.x _ _ _ (hv1.ext (Ext.auto)) (hu1.ext (Ext.auto))).mono ?_
  rintro e w1 ⟨rfl, hx1⟩
  have hs1 := hx1.size
  try simp at hs1
  have he1 : Ext w w1 := Ext.trans (Ext.auto) hx1
  have hc1 := fun b o (hb : b < w.heap.size + 1 + 1) => hx1.cell (b := b) (o := o) (by first | omega | (simp; omega))
  have hg1 := fun b o (hb : b < w.heap.size + 1 + 1) => hx1.frozen (b := b) (o := o) (by first | omega | (simp; omega))
  by_cases h3 : a.x = b.x
  rotate_left
  · have d3 : decide (a.x = b.x) = false := by simp [h3]
    have H3 := hide h3
    clear h3
    go_wp2
    go_ret
    exact ⟨ret_no (fun e => H3.out (by rw [e])), (Ext.hold he1)⟩
  have d3 : decide (a.x = b.x) = true := by simp [h3]
  have H3 := hide h3
  clear h3
  go_wp2_with fail
  refine (eq_TrmPoly a.y b.y _ _ _ (hv2.ext (Ext.hold he1)) (hu2.ext (Ext.hold he1))).mono ?_
  rintro e w2 ⟨rfl, hx2⟩
  have hs2 := hx2.size
  try simp at hs2
  have he2 : Ext w w2 := Ext.trans (Ext.hold he1) hx2
  have hc2 := fun b o (hb : b < w.heap.size + 1 + 1) => hx2.cell (b := b) (o := o) (by first | omega | (simp; omega))
  have hg2 := fun b o (hb : b < w.heap.size + 1 + 1) => hx2.frozen (b := b) (o := o) (by first | omega | (simp; omega))
  by_cases h4 : a.y = b.y
  rotate_left
  · have d4 : decide (a.y = b.y) = false := by simp [h4]
    have H4 := hide h4
    clear h4
    go_wp2
    go_ret
    exact ⟨ret_no (fun e => H4.out (by rw [e])), (Ext.hold2 he2 he1)⟩
  have d4 : decide (a.y = b.y) = true := by simp [h4]
  have H4 := hide h4
  clear h4
  go_wp2_with fail
  refine (eq_ListTrmPoly a.regs b.regs _ _ _ (hv3.ext (Ext.hold2 he2 he1)) (hu3.ext (Ext.hold2 he2 he1))).mono ?_
  rintro e w3 ⟨rfl, hx3⟩
  have hs3 := hx3.size
  try simp at hs3
  have he3 : Ext w w3 := Ext.trans (Ext.hold2 he2 he1) hx3
  have hc3 := fun b o (hb : b < w.heap.size + 1 + 1) => hx3.cell (b := b) (o := o) (by first | omega | (simp; omega))
  have hg3 := fun b o (hb : b < w.heap.size + 1 + 1) => hx3.frozen (b := b) (o := o) (by first | omega | (simp; omega))
  by_cases h5 : a.regs = b.regs
  rotate_left
  · have d5 : decide (a.regs = b.regs) = false := by simp [h5]
    have H5 := hide h5
    clear h5
    go_wp2
    go_ret
    exact ⟨ret_no (fun e => H5.out (by rw [e])), (by (repeat' (first | (with_reducible exact Ext.refl _) | (with_reducible exact he3) | (with_reducible exact he2) | (with_reducible exact he1) | (with_reducible apply Ext.alloc) | (with_reducible apply Ext.drew) | (with_reducible refine Ext.setCell ?_ ?_ _))); all_goals (first | (simp; done) | (simp; omega) | omega))⟩
  have d5 : decide (a.regs = b.regs) = true := by simp [h5]
  have H5 := hide h5
  clear h5
  go_wp2
  go_ret
  exact ⟨ret_yes ((SymEvent.eq_iff a b).2 ⟨H1.out, H2.out, H3.out, H4.out, H5.out⟩), (by (repeat' (first | (with_reducible exact Ext.refl _) | (with_reducible exact he3) | (with_reducible exact he2) | (with_reducible exact he1) | (with_reducible apply Ext.alloc) | (with_reducible apply Ext.drew) | (with_reducible refine Ext.setCell ?_ ?_ _))); all_goals (first | (simp; done) | (simp; omega) | omega))⟩

set_option maxHeartbeats 1000000 in
theorem eq_ListSymEvent (la lb : List SymEvent) (va vb : Value) (w : World) (ha : Sl w (Old w) va la) (hb : Sl w (Old w) vb lb) :
    Calls Try.prog 64 #[va, vb] w fun e w' => e = .returned (.bool (decide (la = lb))) ∧ Ext w w' := by
  obtain ⟨A, ca, rfl, hla, hma⟩ := ha.form
  obtain ⟨B, cb, rfl, hlb, hmb⟩ := hb.form
  unfold maxLen at hma hmb
  by_cases hl : la.length = lb.length
  · have hn : ((la.length : Int) != (lb.length : Int)) = false := by simp [hl]
    have HL := hide hl
    clear hl
    go_enter Try.func64, Try.ntmps64
    go_wp2
    go_loopw [5] (fun i wr => ∃ k : Nat, k ≤ la.length ∧ i = .int .i64 k ∧ Ext w wr ∧ la.take k = lb.take k) (fun i _ => la.length - (intOf i).toNat)
    case atStart => exact ⟨0, by omega, rfl, Ext.refl _, rfl⟩
    case round =>
      obtain ⟨k, hk, rfl, he, ht⟩ := hrel
      have HT := hide ht
      clear ht
      by_cases hlt : k < la.length
      · have hlt' : k < lb.length := by have := HL.out; omega
        obtain ⟨b, off, v1, v2, v3, rfl, hbo, hk0, hv1, hv2, hv3, e0, e1, e2, e3, e4⟩ := at_SymEvent (ha.ext he) hlt
        obtain ⟨b', off', u1, u2, u3, rfl, hbo', hk1, hu1, hu2, hu3, g0, g1, g2, g3, g4⟩ := at_SymEvent (hb.ext he) hlt'
        have z0 : (0 : Int) ≤ (k : Int) := by omega
        have z1 : (k : Int) < (la.length : Int) := by omega
        have z2 : (k : Int) < (lb.length : Int) := by omega
        have TS := hide (take_both la lb k hlt hlt' HT.out)
        go_wp2_with fail
        go_still_tail 8, (by kernel_rfl)
        change wpList _ _ _ _ _ wr.drew
        go_wp2_with fail
        refine (eq_SymEvent la[k] lb[k] _ _ _ _ _ _ _ (hv1.ext (Ext.refl _).drew) (hv2.ext (Ext.refl _).drew) (hv3.ext (Ext.refl _).drew) (hu1.ext (Ext.refl _).drew) (hu2.ext (Ext.refl _).drew) (hu3.ext (Ext.refl _).drew)).mono ?_
        rintro e w1 ⟨rfl, hx⟩
        have he1 : Ext w w1 := Ext.trans he.drew hx
        by_cases hq : la[k] = lb[k]
        · have d1 : decide (la[k] = lb[k]) = true := by simp [hq]
          have HQ := hide hq
          clear hq
          go_wp2
          go_roundw
          case rel => exact ⟨k + 1, by omega, by go_num, he1, TS.out.1 HQ.out⟩
          case measure => simp [intOf]; omega
        · have d1 : decide (la[k] = lb[k]) = false := by simp [hq]
          have HQ := hide hq
          clear hq
          go_wp2
          go_ret
          exact ⟨ret_no (TS.out.2 HQ.out), he1⟩
      · obtain rfl : k = la.length := by omega
        go_wp2
        go_ret
        exact ⟨ret_yes (take_all la lb HL.out HT.out), he⟩
  · have hn : ((la.length : Int) != (lb.length : Int)) = true := by simp; omega
    have HL := hide hl
    clear hl
    go_enter Try.func64, Try.ntmps64
    go_wp2
    go_ret
    exact ⟨ret_no (fun e => HL.out (by rw [e])), Ext.refl _⟩

set_option maxHeartbeats 1000000 in
theorem eq_SymSym (a b : SymSym) (v1 v2 v3 v4 u1 u2 u3 u4 : Value) (w : World) (hv1 : Sl w (Old w) v1 a.events) (hv2 : Sl w (Old w) v2 a.regs) (hv3 : Sl w (Old w) v3 a.x.monos) (hv4 : Sl w (Old w) v4 a.y.monos) (hu1 : Sl w (Old w) u1 b.events) (hu2 : Sl w (Old w) u2 b.regs) (hu3 : Sl w (Old w) u3 b.x.monos) (hu4 : Sl w (Old w) u4 b.y.monos):
    Calls Try.prog 26 #[.agg #[v1, v2, .int .i64 a.fin, v3, v4, .int .i64 a.k], .agg #[u1, u2, .int .i64 b.fin, u3, u4, .int .i64 b.k]] w fun e w' => e = .returned (.bool (decide (a = b))) ∧ Ext w w' := by
  obtain ⟨Av1, cv1, rfl, -, -⟩ := hv1.form
  obtain ⟨Av2, cv2, rfl, -, -⟩ := hv2.form
  obtain ⟨Av3, cv3, rfl, -, -⟩ := hv3.form
  obtain ⟨Av4, cv4, rfl, -, -⟩ := hv4.form
  obtain ⟨Au1, cu1, rfl, -, -⟩ := hu1.form
  obtain ⟨Au2, cu2, rfl, -, -⟩ := hu2.form
  obtain ⟨Au3, cu3, rfl, -, -⟩ := hu3.form
  obtain ⟨Au4, cu4, rfl, -, -⟩ := hu4.form
  go_enter Try.func26, Try.ntmps26
  go_wp2_with fail
  refine (eq_ListSymEvent a.events b.events _ _ _ (hv1.ext (Ext.auto)) (hu1.ext (Ext.auto))).mono ?_
  rintro e w1 ⟨rfl, hx1⟩
  have hs1 := hx1.size
  try simp at hs1
  have he1 : Ext w w1 := Ext.trans (Ext.auto) hx1
  have hc1 := fun b o (hb : b < w.heap.size + 1 + 1) => hx1.cell (b := b) (o := o) (by first | omega | (simp; omega))
  have hg1 := fun b o (hb : b < w.heap.size + 1 + 1) => hx1.frozen (b := b) (o := o) (by first | omega | (simp; omega))
  by_cases h1 : a.events = b.events
  rotate_left
  · have d1 : decide (a.events = b.events) = false := by simp [h1]
    have H1 := hide h1
    clear h1
    go_wp2
    go_ret
    exact ⟨ret_no (fun e => H1.out (by rw [e])), (Ext.hold he1)⟩
  have d1 : decide (a.events = b.events) = true := by simp [h1]
  have H1 := hide h1
  clear h1
  go_wp2_with fail
  refine (eq_ListTrmPoly a.regs b.regs _ _ _ (hv2.ext (Ext.hold he1)) (hu2.ext (Ext.hold he1))).mono ?_
  rintro e w2 ⟨rfl, hx2⟩
  have hs2 := hx2.size
  try simp at hs2
  have he2 : Ext w w2 := Ext.trans (Ext.hold he1) hx2
  have hc2 := fun b o (hb : b < w.heap.size + 1 + 1) => hx2.cell (b := b) (o := o) (by first | omega | (simp; omega))
  have hg2 := fun b o (hb : b < w.heap.size + 1 + 1) => hx2.frozen (b := b) (o := o) (by first | omega | (simp; omega))
  by_cases h2 : a.regs = b.regs
  rotate_left
  · have d2 : decide (a.regs = b.regs) = false := by simp [h2]
    have H2 := hide h2
    clear h2
    go_wp2
    go_ret
    exact ⟨ret_no (fun e => H2.out (by rw [e])), (Ext.hold2 he2 he1)⟩
  have d2 : decide (a.regs = b.regs) = true := by simp [h2]
  have H2 := hide h2
  clear h2
  by_cases h3 : a.fin = b.fin
  rotate_left
  · have d3 : (a.fin != b.fin) = true := by simp [h3]
    have H3 := hide h3
    clear h3
    go_wp2
    go_ret
    exact ⟨ret_no (fun e => H3.out (by rw [e])), (Ext.hold2 he2 he1)⟩
  have d3 : (a.fin != b.fin) = false := by simp [h3]
  have H3 := hide h3
  clear h3
  go_wp2_with fail
  refine (eq_TrmPoly a.x b.x _ _ _ (hv3.ext (Ext.hold2 he2 he1)) (hu3.ext (Ext.hold2 he2 he1))).mono ?_
  rintro e w3 ⟨rfl, hx3⟩
  have hs3 := hx3.size
  try simp at hs3
  have he3 : Ext w w3 := Ext.trans (Ext.hold2 he2 he1) hx3
  have hc3 := fun b o (hb : b < w.heap.size + 1 + 1) => hx3.cell (b := b) (o := o) (by first | omega | (simp; omega))
  have hg3 := fun b o (hb : b < w.heap.size + 1 + 1) => hx3.frozen (b := b) (o := o) (by first | omega | (simp; omega))
  by_cases h4 : a.x = b.x
  rotate_left
  · have d4 : decide (a.x = b.x) = false := by simp [h4]
    have H4 := hide h4
    clear h4
    go_wp2
    go_ret
    exact ⟨ret_no (fun e => H4.out (by rw [e])), (by (repeat' (first | (with_reducible exact Ext.refl _) | (with_reducible exact he3) | (with_reducible exact he2) | (with_reducible exact he1) | (with_reducible apply Ext.alloc) | (with_reducible apply Ext.drew) | (with_reducible refine Ext.setCell ?_ ?_ _))); all_goals (first | (simp; done) | (simp; omega) | omega))⟩
  have d4 : decide (a.x = b.x) = true := by simp [h4]
  have H4 := hide h4
  clear h4
  go_wp2_with fail
  refine (eq_TrmPoly a.y b.y _ _ _ (hv4.ext (by (repeat' (first | (with_reducible exact Ext.refl _) | (with_reducible exact he3) | (with_reducible exact he2) | (with_reducible exact he1) | (with_reducible apply Ext.alloc) | (with_reducible apply Ext.drew) | (with_reducible refine Ext.setCell ?_ ?_ _))); all_goals (first | (simp; done) | (simp; omega) | omega))) (hu4.ext (by (repeat' (first | (with_reducible exact Ext.refl _) | (with_reducible exact he3) | (with_reducible exact he2) | (with_reducible exact he1) | (with_reducible apply Ext.alloc) | (with_reducible apply Ext.drew) | (with_reducible refine Ext.setCell ?_ ?_ _))); all_goals (first | (simp; done) | (simp; omega) | omega)))).mono ?_
  rintro e w4 ⟨rfl, hx4⟩
  have hs4 := hx4.size
  try simp at hs4
  have he4 : Ext w w4 := Ext.trans (by (repeat' (first | (with_reducible exact Ext.refl _) | (with_reducible exact he3) | (with_reducible exact he2) | (with_reducible exact he1) | (with_reducible apply Ext.alloc) | (with_reducible apply Ext.drew) | (with_reducible refine Ext.setCell ?_ ?_ _))); all_goals (first | (simp; done) | (simp; omega) | omega)) hx4
  have hc4 := fun b o (hb : b < w.heap.size + 1 + 1) => hx4.cell (b := b) (o := o) (by first | omega | (simp; omega))
  have hg4 := fun b o (hb : b < w.heap.size + 1 + 1) => hx4.frozen (b := b) (o := o) (by first | omega | (simp; omega))
  by_cases h5 : a.y = b.y
  rotate_left
  · have d5 : decide (a.y = b.y) = false := by simp [h5]
    have H5 := hide h5
    clear h5
    go_wp2
    go_ret
    exact ⟨ret_no (fun e => H5.out (by rw [e])), (by (repeat' (first | (with_reducible exact Ext.refl _) | (with_reducible exact he4) | (with_reducible exact he3) | (with_reducible exact he2) | (with_reducible exact he1) | (with_reducible apply Ext.alloc) | (with_reducible apply Ext.drew) | (with_reducible refine Ext.setCell ?_ ?_ _))); all_goals (first | (simp; done) | (simp; omega) | omega))⟩
  have d5 : decide (a.y = b.y) = true := by simp [h5]
  have H5 := hide h5
  clear h5
  by_cases h6 : a.k = b.k
  rotate_left
  · have d6 : (a.k != b.k) = true := by simp [h6]
    have H6 := hide h6
    clear h6
    go_wp2
    go_ret
    exact ⟨ret_no (fun e => H6.out (by rw [e])), (by (repeat' (first | (with_reducible exact Ext.refl _) | (with_reducible exact he4) | (with_reducible exact he3) | (with_reducible exact he2) | (with_reducible exact he1) | (with_reducible apply Ext.alloc) | (with_reducible apply Ext.drew) | (with_reducible refine Ext.setCell ?_ ?_ _))); all_goals (first | (simp; done) | (simp; omega) | omega))⟩
  have d6 : (a.k != b.k) = false := by simp [h6]
  have H6 := hide h6
  clear h6
  go_wp2
  go_ret
  exact ⟨ret_yes ((SymSym.eq_iff a b).2 ⟨H1.out, H2.out, H3.out, H4.out, H5.out, H6.out⟩), (by (repeat' (first | (with_reducible exact Ext.refl _) | (with_reducible exact he4) | (with_reducible exact he3) | (with_reducible exact he2) | (with_reducible exact he1) | (with_reducible apply Ext.alloc) | (with_reducible apply Ext.drew) | (with_reducible refine Ext.setCell ?_ ?_ _))); all_goals (first | (simp; done) | (simp; omega) | omega))⟩

end Go.Proofs.Ytdmbgljkogpmdaa
