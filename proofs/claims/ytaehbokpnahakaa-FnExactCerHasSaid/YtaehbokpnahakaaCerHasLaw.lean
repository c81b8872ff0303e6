/-
  The law FnExactCerHas returns true for every input: the program's CerHas returns what the reference's returns.
-/
import Derived.Test.YtaehbokpnahakaaCerHas
import Derived.Test.YtaehbokpnahakaaTo
import Derived.Test.YtaehbokpnahakaaEq
import Derived.Test.YtaehbokpnahakaaSz
import Derived.Deep.RegionHeld3
namespace Go.Proofs.Ytaehbokpnahakaa
open Go.RowKit

set_option linter.unusedVariables false
set_option linter.unusedSimpArgs false
set_option maxRecDepth 100000

set_option maxHeartbeats 4000000 in
theorem lawCerHas_any (l : List CerPair) (a : IrBlock) (b : IrBlock) (vl va1 vb1 : Value) (w : World) (hl : Sl w (Old w) vl l) (ha1 : Sl w (Old w) va1 a.ops) (hb1 : Sl w (Old w) vb1 b.ops) :
    Calls Try.prog 4 #[vl, .agg #[.int .i64 a.pc, .int .i64 a.len, va1, .int .i64 a.fin, .int .i64 a.x, .int .i64 a.y, .int .i64 a.k], .agg #[.int .i64 b.pc, .int .i64 b.len, vb1, .int .i64 b.fin, .int .i64 b.x, .int .i64 b.y, .int .i64 b.k]] w fun e w' => e = .returned (.bool true) ∧ Ext w w' := by
  obtain ⟨Al, cl, rfl, -, -⟩ := hl.form
  obtain ⟨Aa1, ca1, rfl, -, -⟩ := ha1.form
  obtain ⟨Ab1, cb1, rfl, -, -⟩ := hb1.form
  go_enter Try.func4, Try.ntmps4
  go_wp2_with fail
  refine (sz_ListCerPair l _ 1048576 _ (hl.ext (by (repeat' (first | (with_reducible exact Ext.refl _) | (with_reducible apply Ext.alloc) | (with_reducible apply Ext.drewN) | (with_reducible apply Ext.drew) | (with_reducible refine Ext.setCell ?_ ?_ _))); all_goals (first | (simp; done) | (simp; omega) | omega))) (by omega) (by omega)).mono ?_
  rintro e w1 ⟨r1, rfl, hr, hx1⟩
  have hs1 := hx1.size
  try simp at hs1
  have he1 : Ext w w1 := Ext.trans (by (repeat' (first | (with_reducible exact Ext.refl _) | (with_reducible apply Ext.alloc) | (with_reducible apply Ext.drewN) | (with_reducible apply Ext.drew) | (with_reducible refine Ext.setCell ?_ ?_ _))); all_goals (first | (simp; done) | (simp; omega) | omega)) hx1
  have hBa_1 : Bx w1 (w.heap.size) [.int .i64 a.pc, .int .i64 a.len, .slice Aa1 a.ops.length ca1, .int .i64 a.fin, .int .i64 a.x, .int .i64 a.y, .int .i64 a.k] := by have := hx1.bx (Bx.alloc (Bx.new _ _ _) (by first | (simp; done) | (simp; omega)) _ _) (by first | (simp; done) | (simp; omega)); simpa using this
  have hBb_1 : Bx w1 (w.heap.size + 1) [.int .i64 b.pc, .int .i64 b.len, .slice Ab1 b.ops.length cb1, .int .i64 b.fin, .int .i64 b.x, .int .i64 b.y, .int .i64 b.k] := by have := hx1.bx (Bx.new _ _ _) (by first | (simp; done) | (simp; omega)); simpa using this
  rcases hr with ⟨hq, hl1⟩ | ⟨hq, hl1⟩
  rotate_left
  · have hz : r1 < 0 := by omega
    clear hq
    go_wp2
    go_ret
    exact ⟨rfl, he1⟩
  have hz1 : 0 ≤ r1 := by omega
  have hy1 : r1 ≤ 1048576 := by omega
  have HQ1 := hide hq
  clear hq
  have ya : w.heap.size < w1.heap.size := by omega
  have xa0 : w1.cell? ⟨w.heap.size, 0, none⟩ = some (.int .i64 a.pc) := hBa_1 0 _ rfl
  have xa1 : w1.cell? ⟨w.heap.size, 1, none⟩ = some (.int .i64 a.len) := hBa_1 1 _ rfl
  have xa2 : w1.cell? ⟨w.heap.size, 2, none⟩ = some (.slice Aa1 a.ops.length ca1) := hBa_1 2 _ rfl
  have xa3 : w1.cell? ⟨w.heap.size, 3, none⟩ = some (.int .i64 a.fin) := hBa_1 3 _ rfl
  have xa4 : w1.cell? ⟨w.heap.size, 4, none⟩ = some (.int .i64 a.x) := hBa_1 4 _ rfl
  have xa5 : w1.cell? ⟨w.heap.size, 5, none⟩ = some (.int .i64 a.y) := hBa_1 5 _ rfl
  have xa6 : w1.cell? ⟨w.heap.size, 6, none⟩ = some (.int .i64 a.k) := hBa_1 6 _ rfl
  go_wp2_with fail
  clear xa0 xa1 xa2 xa3 xa4 xa5 xa6 ya
  refine (sz_IrBlock a _ r1 _ (ha1.ext he1) (by omega) (by omega)).mono ?_
  rintro e w2 ⟨r2, rfl, hr, hx2⟩
  have hs2 := hx2.size
  try simp at hs2
  have he2 : Ext w w2 := Ext.trans (by (repeat' (first | (with_reducible exact Ext.refl _) | (with_reducible exact he1) | (with_reducible apply Ext.alloc) | (with_reducible apply Ext.drewN) | (with_reducible apply Ext.drew) | (with_reducible refine Ext.setCell ?_ ?_ _))); all_goals (first | (simp; done) | (simp; omega) | omega)) hx2
  have hBa_2 : Bx w2 (w.heap.size) [.int .i64 a.pc, .int .i64 a.len, .slice Aa1 a.ops.length ca1, .int .i64 a.fin, .int .i64 a.x, .int .i64 a.y, .int .i64 a.k] := hx2.bx (by (repeat' (first | (with_reducible exact hBa_1) | (with_reducible apply Bx.drew) | (with_reducible apply Bx.drewN) | (with_reducible refine Bx.alloc ?_ ?_ _ _) | (with_reducible refine Bx.setCell ?_ ?_ _))); all_goals (first | (simp; done) | (simp; omega) | omega)) (by first | omega | (simp; omega))
  have hBb_2 : Bx w2 (w.heap.size + 1) [.int .i64 b.pc, .int .i64 b.len, .slice Ab1 b.ops.length cb1, .int .i64 b.fin, .int .i64 b.x, .int .i64 b.y, .int .i64 b.k] := hx2.bx (by (repeat' (first | (with_reducible exact hBb_1) | (with_reducible apply Bx.drew) | (with_reducible apply Bx.drewN) | (with_reducible refine Bx.alloc ?_ ?_ _ _) | (with_reducible refine Bx.setCell ?_ ?_ _))); all_goals (first | (simp; done) | (simp; omega) | omega)) (by first | omega | (simp; omega))
  rcases hr with ⟨hq, hl2⟩ | ⟨hq, hl2⟩
  rotate_left
  · have hz : r2 < 0 := by omega
    clear hq
    go_wp2
    go_ret
    exact ⟨rfl, he2⟩
  have hz2 : 0 ≤ r2 := by omega
  have hy2 : r2 ≤ 1048576 := by omega
  have HQ2 := hide hq
  clear hq
  have yb : w.heap.size + 1 < w2.heap.size := by omega
  have xb0 : w2.cell? ⟨w.heap.size + 1, 0, none⟩ = some (.int .i64 b.pc) := hBb_2 0 _ rfl
  have xb1 : w2.cell? ⟨w.heap.size + 1, 1, none⟩ = some (.int .i64 b.len) := hBb_2 1 _ rfl
  have xb2 : w2.cell? ⟨w.heap.size + 1, 2, none⟩ = some (.slice Ab1 b.ops.length cb1) := hBb_2 2 _ rfl
  have xb3 : w2.cell? ⟨w.heap.size + 1, 3, none⟩ = some (.int .i64 b.fin) := hBb_2 3 _ rfl
  have xb4 : w2.cell? ⟨w.heap.size + 1, 4, none⟩ = some (.int .i64 b.x) := hBb_2 4 _ rfl
  have xb5 : w2.cell? ⟨w.heap.size + 1, 5, none⟩ = some (.int .i64 b.y) := hBb_2 5 _ rfl
  have xb6 : w2.cell? ⟨w.heap.size + 1, 6, none⟩ = some (.int .i64 b.k) := hBb_2 6 _ rfl
  go_wp2_with fail
  clear xb0 xb1 xb2 xb3 xb4 xb5 xb6 yb
  refine (sz_IrBlock b _ r2 _ (hb1.ext he2) (by omega) (by omega)).mono ?_
  rintro e w3 ⟨r3, rfl, hr, hx3⟩
  have hs3 := hx3.size
  try simp at hs3
  have he3 : Ext w w3 := Ext.trans (by (repeat' (first | (with_reducible exact Ext.refl _) | (with_reducible exact he2) | (with_reducible apply Ext.alloc) | (with_reducible apply Ext.drewN) | (with_reducible apply Ext.drew) | (with_reducible refine Ext.setCell ?_ ?_ _))); all_goals (first | (simp; done) | (simp; omega) | omega)) hx3
  have hBa_3 : Bx w3 (w.heap.size) [.int .i64 a.pc, .int .i64 a.len, .slice Aa1 a.ops.length ca1, .int .i64 a.fin, .int .i64 a.x, .int .i64 a.y, .int .i64 a.k] := hx3.bx (by (repeat' (first | (with_reducible exact hBa_2) | (with_reducible apply Bx.drew) | (with_reducible apply Bx.drewN) | (with_reducible refine Bx.alloc ?_ ?_ _ _) | (with_reducible refine Bx.setCell ?_ ?_ _))); all_goals (first | (simp; done) | (simp; omega) | omega)) (by first | omega | (simp; omega))
  have hBb_3 : Bx w3 (w.heap.size + 1) [.int .i64 b.pc, .int .i64 b.len, .slice Ab1 b.ops.length cb1, .int .i64 b.fin, .int .i64 b.x, .int .i64 b.y, .int .i64 b.k] := hx3.bx (by (repeat' (first | (with_reducible exact hBb_2) | (with_reducible apply Bx.drew) | (with_reducible apply Bx.drewN) | (with_reducible refine Bx.alloc ?_ ?_ _ _) | (with_reducible refine Bx.setCell ?_ ?_ _))); all_goals (first | (simp; done) | (simp; omega) | omega)) (by first | omega | (simp; omega))
  rcases hr with ⟨hq, hl3⟩ | ⟨hq, hl3⟩
  rotate_left
  · have hz : r3 < 0 := by omega
    clear hq
    go_wp2
    go_ret
    exact ⟨rfl, he3⟩
  have hz3 : 0 ≤ r3 := by omega
  have hy3 : r3 ≤ 1048576 := by omega
  have HQ3 := hide hq
  clear hq
  have nl : Bulk.blk l ≤ 1048576 := by omega
  have na : Bulk.blk a ≤ 1048576 := by have := HQ1.out; omega
  have nb : Bulk.blk b ≤ 1048576 := by have := HQ1.out; have := HQ2.out; omega
  have ya : w.heap.size < w3.heap.size := by omega
  have xa0 : w3.cell? ⟨w.heap.size, 0, none⟩ = some (.int .i64 a.pc) := hBa_3 0 _ rfl
  have xa1 : w3.cell? ⟨w.heap.size, 1, none⟩ = some (.int .i64 a.len) := hBa_3 1 _ rfl
  have xa2 : w3.cell? ⟨w.heap.size, 2, none⟩ = some (.slice Aa1 a.ops.length ca1) := hBa_3 2 _ rfl
  have xa3 : w3.cell? ⟨w.heap.size, 3, none⟩ = some (.int .i64 a.fin) := hBa_3 3 _ rfl
  have xa4 : w3.cell? ⟨w.heap.size, 4, none⟩ = some (.int .i64 a.x) := hBa_3 4 _ rfl
  have xa5 : w3.cell? ⟨w.heap.size, 5, none⟩ = some (.int .i64 a.y) := hBa_3 5 _ rfl
  have xa6 : w3.cell? ⟨w.heap.size, 6, none⟩ = some (.int .i64 a.k) := hBa_3 6 _ rfl
  have yb : w.heap.size + 1 < w3.heap.size := by omega
  have xb0 : w3.cell? ⟨w.heap.size + 1, 0, none⟩ = some (.int .i64 b.pc) := hBb_3 0 _ rfl
  have xb1 : w3.cell? ⟨w.heap.size + 1, 1, none⟩ = some (.int .i64 b.len) := hBb_3 1 _ rfl
  have xb2 : w3.cell? ⟨w.heap.size + 1, 2, none⟩ = some (.slice Ab1 b.ops.length cb1) := hBb_3 2 _ rfl
  have xb3 : w3.cell? ⟨w.heap.size + 1, 3, none⟩ = some (.int .i64 b.fin) := hBb_3 3 _ rfl
  have xb4 : w3.cell? ⟨w.heap.size + 1, 4, none⟩ = some (.int .i64 b.x) := hBb_3 4 _ rfl
  have xb5 : w3.cell? ⟨w.heap.size + 1, 5, none⟩ = some (.int .i64 b.y) := hBb_3 5 _ rfl
  have xb6 : w3.cell? ⟨w.heap.size + 1, 6, none⟩ = some (.int .i64 b.k) := hBb_3 6 _ rfl
  go_wp2_with fail
  go_region_held3 (fun w' => w'.cell? ⟨w.heap.size, 0, none⟩ = some (.int .i64 a.pc) ∧ w'.cell? ⟨w.heap.size, 1, none⟩ = some (.int .i64 a.len) ∧ w'.cell? ⟨w.heap.size, 2, none⟩ = some (.slice Aa1 a.ops.length ca1) ∧ w'.cell? ⟨w.heap.size, 3, none⟩ = some (.int .i64 a.fin) ∧ w'.cell? ⟨w.heap.size, 4, none⟩ = some (.int .i64 a.x) ∧ w'.cell? ⟨w.heap.size, 5, none⟩ = some (.int .i64 a.y) ∧ w'.cell? ⟨w.heap.size, 6, none⟩ = some (.int .i64 a.k) ∧ w'.cell? ⟨w.heap.size + 1, 0, none⟩ = some (.int .i64 b.pc) ∧ w'.cell? ⟨w.heap.size + 1, 1, none⟩ = some (.int .i64 b.len) ∧ w'.cell? ⟨w.heap.size + 1, 2, none⟩ = some (.slice Ab1 b.ops.length cb1) ∧ w'.cell? ⟨w.heap.size + 1, 3, none⟩ = some (.int .i64 b.fin) ∧ w'.cell? ⟨w.heap.size + 1, 4, none⟩ = some (.int .i64 b.x) ∧ w'.cell? ⟨w.heap.size + 1, 5, none⟩ = some (.int .i64 b.y) ∧ w'.cell? ⟨w.heap.size + 1, 6, none⟩ = some (.int .i64 b.k))
    (first | go_keep | (go_split_ands; (repeat' apply And.intro) <;> (refine (hx.cell ?_).trans ?_ <;> first | assumption | (simp; omega) | omega)))
    (first | ((go_at_call 13; refine (to_ListCerPair l _ _ (by refine hl.ext (Ext.trans he3 ?_); (repeat' (first | (with_reducible exact Ext.refl _) | (with_reducible apply Ext.alloc) | (with_reducible apply Ext.drewN) | (with_reducible apply Ext.drew) | (with_reducible refine Ext.setCell ?_ ?_ _))); all_goals (first | (simp; done) | (simp; omega) | omega)) nl).mono ?_); (rintro e w4 ⟨ra, Fa, rfl, hoa, hfa, hx⟩); (have hx4 := hx); (have hs4 := hx.size); (try simp at hs4)) | ((go_at_call 14; with_reducible refine (to_IrBlock a _ _ (by refine ha1.ext (Ext.trans he3 (Ext.trans ?_ hx4)); (repeat' (first | (with_reducible exact Ext.refl _) | (with_reducible apply Ext.alloc) | (with_reducible apply Ext.drewN) | (with_reducible apply Ext.drew) | (with_reducible refine Ext.setCell ?_ ?_ _))); all_goals (first | (simp; done) | (simp; omega) | omega)) na).mono ?_); (rintro e w5 ⟨rb, Fb, rfl, hob, hfb, hx⟩); (have hx5 := hx); (have hs5 := hx.size); (try simp at hs5)) | ((go_at_call 14; with_reducible refine (to_IrBlock b _ _ (by refine hb1.ext (Ext.trans he3 (Ext.trans (Ext.trans ?_ hx4) hx5)); (repeat' (first | (with_reducible exact Ext.refl _) | (with_reducible apply Ext.alloc) | (with_reducible apply Ext.drewN) | (with_reducible apply Ext.drew) | (with_reducible refine Ext.setCell ?_ ?_ _))); all_goals (first | (simp; done) | (simp; omega) | omega)) nb).mono ?_); (rintro e w6 ⟨rc, Fc, rfl, hoc, hfc, hx⟩); (have hx6 := hx); (have hs6 := hx.size); (try simp at hs6)) | ((go_at_call 12; refine (specCerHas_any l a b _ _ _ _ ((hoa.old hfa).ext (Ext.trans hx5 hx6)) ((hob.old hfb).ext hx6) (hoc.old hfc)).mono ?_); (rintro e w7 ⟨rfl, hx⟩); (have hx7 := hx); (have hs7 := hx.size); (try simp at hs7)))
  clear xa0 xa1 xa2 xa3 xa4 xa5 xa6 ya
  clear xb0 xb1 xb2 xb3 xb4 xb5 xb6 yb
  have he4 : Ext w w4 := Ext.trans (by (repeat' (first | (with_reducible exact Ext.refl _) | (with_reducible exact he3) | (with_reducible apply Ext.alloc) | (with_reducible apply Ext.drewN) | (with_reducible apply Ext.drew) | (with_reducible refine Ext.setCell ?_ ?_ _))); all_goals (first | (simp; done) | (simp; omega) | omega)) hx4
  have hBa_4 : Bx w4 (w.heap.size) [.int .i64 a.pc, .int .i64 a.len, .slice Aa1 a.ops.length ca1, .int .i64 a.fin, .int .i64 a.x, .int .i64 a.y, .int .i64 a.k] := hx4.bx (by (repeat' (first | (with_reducible exact hBa_3) | (with_reducible apply Bx.drew) | (with_reducible apply Bx.drewN) | (with_reducible refine Bx.alloc ?_ ?_ _ _) | (with_reducible refine Bx.setCell ?_ ?_ _))); all_goals (first | (simp; done) | (simp; omega) | omega)) (by first | omega | (simp; omega))
  have hBb_4 : Bx w4 (w.heap.size + 1) [.int .i64 b.pc, .int .i64 b.len, .slice Ab1 b.ops.length cb1, .int .i64 b.fin, .int .i64 b.x, .int .i64 b.y, .int .i64 b.k] := hx4.bx (by (repeat' (first | (with_reducible exact hBb_3) | (with_reducible apply Bx.drew) | (with_reducible apply Bx.drewN) | (with_reducible refine Bx.alloc ?_ ?_ _ _) | (with_reducible refine Bx.setCell ?_ ?_ _))); all_goals (first | (simp; done) | (simp; omega) | omega)) (by first | omega | (simp; omega))
  have he5 : Ext w w5 := Ext.trans (by (repeat' (first | (with_reducible exact Ext.refl _) | (with_reducible exact he4) | (with_reducible apply Ext.alloc) | (with_reducible apply Ext.drewN) | (with_reducible apply Ext.drew) | (with_reducible refine Ext.setCell ?_ ?_ _))); all_goals (first | (simp; done) | (simp; omega) | omega)) hx5
  have hBa_5 : Bx w5 (w.heap.size) [.int .i64 a.pc, .int .i64 a.len, .slice Aa1 a.ops.length ca1, .int .i64 a.fin, .int .i64 a.x, .int .i64 a.y, .int .i64 a.k] := hx5.bx (by (repeat' (first | (with_reducible exact hBa_4) | (with_reducible apply Bx.drew) | (with_reducible apply Bx.drewN) | (with_reducible refine Bx.alloc ?_ ?_ _ _) | (with_reducible refine Bx.setCell ?_ ?_ _))); all_goals (first | (simp; done) | (simp; omega) | omega)) (by first | omega | (simp; omega))
  have hBb_5 : Bx w5 (w.heap.size + 1) [.int .i64 b.pc, .int .i64 b.len, .slice Ab1 b.ops.length cb1, .int .i64 b.fin, .int .i64 b.x, .int .i64 b.y, .int .i64 b.k] := hx5.bx (by (repeat' (first | (with_reducible exact hBb_4) | (with_reducible apply Bx.drew) | (with_reducible apply Bx.drewN) | (with_reducible refine Bx.alloc ?_ ?_ _ _) | (with_reducible refine Bx.setCell ?_ ?_ _))); all_goals (first | (simp; done) | (simp; omega) | omega)) (by first | omega | (simp; omega))
  have he6 : Ext w w6 := Ext.trans (by (repeat' (first | (with_reducible exact Ext.refl _) | (with_reducible exact he5) | (with_reducible apply Ext.alloc) | (with_reducible apply Ext.drewN) | (with_reducible apply Ext.drew) | (with_reducible refine Ext.setCell ?_ ?_ _))); all_goals (first | (simp; done) | (simp; omega) | omega)) hx6
  have hBa_6 : Bx w6 (w.heap.size) [.int .i64 a.pc, .int .i64 a.len, .slice Aa1 a.ops.length ca1, .int .i64 a.fin, .int .i64 a.x, .int .i64 a.y, .int .i64 a.k] := hx6.bx (by (repeat' (first | (with_reducible exact hBa_5) | (with_reducible apply Bx.drew) | (with_reducible apply Bx.drewN) | (with_reducible refine Bx.alloc ?_ ?_ _ _) | (with_reducible refine Bx.setCell ?_ ?_ _))); all_goals (first | (simp; done) | (simp; omega) | omega)) (by first | omega | (simp; omega))
  have hBb_6 : Bx w6 (w.heap.size + 1) [.int .i64 b.pc, .int .i64 b.len, .slice Ab1 b.ops.length cb1, .int .i64 b.fin, .int .i64 b.x, .int .i64 b.y, .int .i64 b.k] := hx6.bx (by (repeat' (first | (with_reducible exact hBb_5) | (with_reducible apply Bx.drew) | (with_reducible apply Bx.drewN) | (with_reducible refine Bx.alloc ?_ ?_ _ _) | (with_reducible refine Bx.setCell ?_ ?_ _))); all_goals (first | (simp; done) | (simp; omega) | omega)) (by first | omega | (simp; omega))
  have he7 : Ext w w7 := Ext.trans (by (repeat' (first | (with_reducible exact Ext.refl _) | (with_reducible exact he6) | (with_reducible apply Ext.alloc) | (with_reducible apply Ext.drewN) | (with_reducible apply Ext.drew) | (with_reducible refine Ext.setCell ?_ ?_ _))); all_goals (first | (simp; done) | (simp; omega) | omega)) hx7
  have hBa_7 : Bx w7 (w.heap.size) [.int .i64 a.pc, .int .i64 a.len, .slice Aa1 a.ops.length ca1, .int .i64 a.fin, .int .i64 a.x, .int .i64 a.y, .int .i64 a.k] := hx7.bx (by (repeat' (first | (with_reducible exact hBa_6) | (with_reducible apply Bx.drew) | (with_reducible apply Bx.drewN) | (with_reducible refine Bx.alloc ?_ ?_ _ _) | (with_reducible refine Bx.setCell ?_ ?_ _))); all_goals (first | (simp; done) | (simp; omega) | omega)) (by first | omega | (simp; omega))
  have hBb_7 : Bx w7 (w.heap.size + 1) [.int .i64 b.pc, .int .i64 b.len, .slice Ab1 b.ops.length cb1, .int .i64 b.fin, .int .i64 b.x, .int .i64 b.y, .int .i64 b.k] := hx7.bx (by (repeat' (first | (with_reducible exact hBb_6) | (with_reducible apply Bx.drew) | (with_reducible apply Bx.drewN) | (with_reducible refine Bx.alloc ?_ ?_ _ _) | (with_reducible refine Bx.setCell ?_ ?_ _))); all_goals (first | (simp; done) | (simp; omega) | omega)) (by first | omega | (simp; omega))
  go_wp2_with fail
  refine (to_ListCerPair l _ _ (hl.ext he7) nl).mono ?_
  rintro e w8 ⟨r_x, F_x, rfl, ho_x, hf_x, hx8⟩
  have hs8 := hx8.size
  try simp at hs8
  have he8 : Ext w w8 := Ext.trans (by (repeat' (first | (with_reducible exact Ext.refl _) | (with_reducible exact he7) | (with_reducible apply Ext.alloc) | (with_reducible apply Ext.drewN) | (with_reducible apply Ext.drew) | (with_reducible refine Ext.setCell ?_ ?_ _))); all_goals (first | (simp; done) | (simp; omega) | omega)) hx8
  have hBa_8 : Bx w8 (w.heap.size) [.int .i64 a.pc, .int .i64 a.len, .slice Aa1 a.ops.length ca1, .int .i64 a.fin, .int .i64 a.x, .int .i64 a.y, .int .i64 a.k] := hx8.bx (by (repeat' (first | (with_reducible exact hBa_7) | (with_reducible apply Bx.drew) | (with_reducible apply Bx.drewN) | (with_reducible refine Bx.alloc ?_ ?_ _ _) | (with_reducible refine Bx.setCell ?_ ?_ _))); all_goals (first | (simp; done) | (simp; omega) | omega)) (by first | omega | (simp; omega))
  have hBb_8 : Bx w8 (w.heap.size + 1) [.int .i64 b.pc, .int .i64 b.len, .slice Ab1 b.ops.length cb1, .int .i64 b.fin, .int .i64 b.x, .int .i64 b.y, .int .i64 b.k] := hx8.bx (by (repeat' (first | (with_reducible exact hBb_7) | (with_reducible apply Bx.drew) | (with_reducible apply Bx.drewN) | (with_reducible refine Bx.alloc ?_ ?_ _ _) | (with_reducible refine Bx.setCell ?_ ?_ _))); all_goals (first | (simp; done) | (simp; omega) | omega)) (by first | omega | (simp; omega))
  have ya : w.heap.size < w8.heap.size := by omega
  have xa0 : w8.cell? ⟨w.heap.size, 0, none⟩ = some (.int .i64 a.pc) := hBa_8 0 _ rfl
  have xa1 : w8.cell? ⟨w.heap.size, 1, none⟩ = some (.int .i64 a.len) := hBa_8 1 _ rfl
  have xa2 : w8.cell? ⟨w.heap.size, 2, none⟩ = some (.slice Aa1 a.ops.length ca1) := hBa_8 2 _ rfl
  have xa3 : w8.cell? ⟨w.heap.size, 3, none⟩ = some (.int .i64 a.fin) := hBa_8 3 _ rfl
  have xa4 : w8.cell? ⟨w.heap.size, 4, none⟩ = some (.int .i64 a.x) := hBa_8 4 _ rfl
  have xa5 : w8.cell? ⟨w.heap.size, 5, none⟩ = some (.int .i64 a.y) := hBa_8 5 _ rfl
  have xa6 : w8.cell? ⟨w.heap.size, 6, none⟩ = some (.int .i64 a.k) := hBa_8 6 _ rfl
  go_wp2_with fail
  clear xa0 xa1 xa2 xa3 xa4 xa5 xa6 ya
  refine (to_IrBlock a _ _ (ha1.ext he8) na).mono ?_
  rintro e w9 ⟨r_y, F_y, rfl, ho_y, hf_y, hx9⟩
  have hs9 := hx9.size
  try simp at hs9
  have he9 : Ext w w9 := Ext.trans (by (repeat' (first | (with_reducible exact Ext.refl _) | (with_reducible exact he8) | (with_reducible apply Ext.alloc) | (with_reducible apply Ext.drewN) | (with_reducible apply Ext.drew) | (with_reducible refine Ext.setCell ?_ ?_ _))); all_goals (first | (simp; done) | (simp; omega) | omega)) hx9
  have hBa_9 : Bx w9 (w.heap.size) [.int .i64 a.pc, .int .i64 a.len, .slice Aa1 a.ops.length ca1, .int .i64 a.fin, .int .i64 a.x, .int .i64 a.y, .int .i64 a.k] := hx9.bx (by (repeat' (first | (with_reducible exact hBa_8) | (with_reducible apply Bx.drew) | (with_reducible apply Bx.drewN) | (with_reducible refine Bx.alloc ?_ ?_ _ _) | (with_reducible refine Bx.setCell ?_ ?_ _))); all_goals (first | (simp; done) | (simp; omega) | omega)) (by first | omega | (simp; omega))
  have hBb_9 : Bx w9 (w.heap.size + 1) [.int .i64 b.pc, .int .i64 b.len, .slice Ab1 b.ops.length cb1, .int .i64 b.fin, .int .i64 b.x, .int .i64 b.y, .int .i64 b.k] := hx9.bx (by (repeat' (first | (with_reducible exact hBb_8) | (with_reducible apply Bx.drew) | (with_reducible apply Bx.drewN) | (with_reducible refine Bx.alloc ?_ ?_ _ _) | (with_reducible refine Bx.setCell ?_ ?_ _))); all_goals (first | (simp; done) | (simp; omega) | omega)) (by first | omega | (simp; omega))
  obtain ⟨A_y, c_y, rfl, -, -⟩ := ho_y.sl.form
  have yb : w.heap.size + 1 < w9.heap.size := by omega
  have xb0 : w9.cell? ⟨w.heap.size + 1, 0, none⟩ = some (.int .i64 b.pc) := hBb_9 0 _ rfl
  have xb1 : w9.cell? ⟨w.heap.size + 1, 1, none⟩ = some (.int .i64 b.len) := hBb_9 1 _ rfl
  have xb2 : w9.cell? ⟨w.heap.size + 1, 2, none⟩ = some (.slice Ab1 b.ops.length cb1) := hBb_9 2 _ rfl
  have xb3 : w9.cell? ⟨w.heap.size + 1, 3, none⟩ = some (.int .i64 b.fin) := hBb_9 3 _ rfl
  have xb4 : w9.cell? ⟨w.heap.size + 1, 4, none⟩ = some (.int .i64 b.x) := hBb_9 4 _ rfl
  have xb5 : w9.cell? ⟨w.heap.size + 1, 5, none⟩ = some (.int .i64 b.y) := hBb_9 5 _ rfl
  have xb6 : w9.cell? ⟨w.heap.size + 1, 6, none⟩ = some (.int .i64 b.k) := hBb_9 6 _ rfl
  go_wp2_with fail
  clear xb0 xb1 xb2 xb3 xb4 xb5 xb6 yb
  refine (to_IrBlock b _ _ (hb1.ext (by (repeat' (first | (with_reducible exact Ext.refl _) | (with_reducible exact he9) | (with_reducible apply Ext.alloc) | (with_reducible apply Ext.drewN) | (with_reducible apply Ext.drew) | (with_reducible refine Ext.setCell ?_ ?_ _))); all_goals (first | (simp; done) | (simp; omega) | omega))) nb).mono ?_
  rintro e w10 ⟨r_z, F_z, rfl, ho_z, hf_z, hx10⟩
  have hs10 := hx10.size
  try simp at hs10
  have he10 : Ext w w10 := Ext.trans (by (repeat' (first | (with_reducible exact Ext.refl _) | (with_reducible exact he9) | (with_reducible apply Ext.alloc) | (with_reducible apply Ext.drewN) | (with_reducible apply Ext.drew) | (with_reducible refine Ext.setCell ?_ ?_ _))); all_goals (first | (simp; done) | (simp; omega) | omega)) hx10
  have hBa_10 : Bx w10 (w.heap.size) [.int .i64 a.pc, .int .i64 a.len, .slice Aa1 a.ops.length ca1, .int .i64 a.fin, .int .i64 a.x, .int .i64 a.y, .int .i64 a.k] := hx10.bx (by (repeat' (first | (with_reducible exact hBa_9) | (with_reducible apply Bx.drew) | (with_reducible apply Bx.drewN) | (with_reducible refine Bx.alloc ?_ ?_ _ _) | (with_reducible refine Bx.setCell ?_ ?_ _))); all_goals (first | (simp; done) | (simp; omega) | omega)) (by first | omega | (simp; omega))
  have hBb_10 : Bx w10 (w.heap.size + 1) [.int .i64 b.pc, .int .i64 b.len, .slice Ab1 b.ops.length cb1, .int .i64 b.fin, .int .i64 b.x, .int .i64 b.y, .int .i64 b.k] := hx10.bx (by (repeat' (first | (with_reducible exact hBb_9) | (with_reducible apply Bx.drew) | (with_reducible apply Bx.drewN) | (with_reducible refine Bx.alloc ?_ ?_ _ _) | (with_reducible refine Bx.setCell ?_ ?_ _))); all_goals (first | (simp; done) | (simp; omega) | omega)) (by first | omega | (simp; omega))
  have hBxa_10 : Bx w10 (w9.heap.size) [.int .i64 a.pc, .int .i64 a.len, .slice A_y a.ops.length c_y, .int .i64 a.fin, .int .i64 a.x, .int .i64 a.y, .int .i64 a.k] := by have := hx10.bx (Bx.new _ _ _) (by first | (simp; done) | (simp; omega)); simpa using this
  obtain ⟨A_z, c_z, rfl, -, -⟩ := ho_z.sl.form
  have yxa : w9.heap.size < w10.heap.size := by omega
  have xxa0 : w10.cell? ⟨w9.heap.size, 0, none⟩ = some (.int .i64 a.pc) := hBxa_10 0 _ rfl
  have xxa1 : w10.cell? ⟨w9.heap.size, 1, none⟩ = some (.int .i64 a.len) := hBxa_10 1 _ rfl
  have xxa2 : w10.cell? ⟨w9.heap.size, 2, none⟩ = some (.slice A_y a.ops.length c_y) := hBxa_10 2 _ rfl
  have xxa3 : w10.cell? ⟨w9.heap.size, 3, none⟩ = some (.int .i64 a.fin) := hBxa_10 3 _ rfl
  have xxa4 : w10.cell? ⟨w9.heap.size, 4, none⟩ = some (.int .i64 a.x) := hBxa_10 4 _ rfl
  have xxa5 : w10.cell? ⟨w9.heap.size, 5, none⟩ = some (.int .i64 a.y) := hBxa_10 5 _ rfl
  have xxa6 : w10.cell? ⟨w9.heap.size, 6, none⟩ = some (.int .i64 a.k) := hBxa_10 6 _ rfl
  go_wp2_with fail
  clear xxa0 xxa1 xxa2 xxa3 xxa4 xxa5 xxa6 yxa
  have px : Sl w10 (Old w10) r_x l := (ho_x.old hf_x).ext (Ext.trans hx9 (Ext.trans (by (repeat' (first | (with_reducible exact Ext.refl _) | (with_reducible apply Ext.alloc) | (with_reducible apply Ext.drewN) | (with_reducible apply Ext.drew) | (with_reducible refine Ext.setCell ?_ ?_ _))); all_goals (first | (simp; done) | (simp; omega) | omega)) hx10))
  have py : Sl w10 (Old w10) (.slice A_y a.ops.length c_y) a.ops := (ho_y.old hf_y).ext (Ext.trans (by (repeat' (first | (with_reducible exact Ext.refl _) | (with_reducible apply Ext.alloc) | (with_reducible apply Ext.drewN) | (with_reducible apply Ext.drew) | (with_reducible refine Ext.setCell ?_ ?_ _))); all_goals (first | (simp; done) | (simp; omega) | omega)) hx10)
  have pz : Sl w10 (Old w10) (.slice A_z b.ops.length c_z) b.ops := ho_z.old hf_z
  refine (implCerHas_any l a b _ _ _ _ (px.ext (by (repeat' (first | (with_reducible exact Ext.refl _) | (with_reducible apply Ext.alloc) | (with_reducible apply Ext.drewN) | (with_reducible apply Ext.drew) | (with_reducible refine Ext.setCell ?_ ?_ _))); all_goals (first | (simp; done) | (simp; omega) | omega))) (py.ext (by (repeat' (first | (with_reducible exact Ext.refl _) | (with_reducible apply Ext.alloc) | (with_reducible apply Ext.drewN) | (with_reducible apply Ext.drew) | (with_reducible refine Ext.setCell ?_ ?_ _))); all_goals (first | (simp; done) | (simp; omega) | omega))) (pz.ext (by (repeat' (first | (with_reducible exact Ext.refl _) | (with_reducible apply Ext.alloc) | (with_reducible apply Ext.drewN) | (with_reducible apply Ext.drew) | (with_reducible refine Ext.setCell ?_ ?_ _))); all_goals (first | (simp; done) | (simp; omega) | omega)))).mono ?_
  rintro e w11 ⟨rfl, hx11⟩
  have hs11 := hx11.size
  try simp at hs11
  have he11 : Ext w w11 := Ext.trans (by (repeat' (first | (with_reducible exact Ext.refl _) | (with_reducible exact he10) | (with_reducible apply Ext.alloc) | (with_reducible apply Ext.drewN) | (with_reducible apply Ext.drew) | (with_reducible refine Ext.setCell ?_ ?_ _))); all_goals (first | (simp; done) | (simp; omega) | omega)) hx11
  have hBa_11 : Bx w11 (w.heap.size) [.int .i64 a.pc, .int .i64 a.len, .slice Aa1 a.ops.length ca1, .int .i64 a.fin, .int .i64 a.x, .int .i64 a.y, .int .i64 a.k] := hx11.bx (by (repeat' (first | (with_reducible exact hBa_10) | (with_reducible apply Bx.drew) | (with_reducible apply Bx.drewN) | (with_reducible refine Bx.alloc ?_ ?_ _ _) | (with_reducible refine Bx.setCell ?_ ?_ _))); all_goals (first | (simp; done) | (simp; omega) | omega)) (by first | omega | (simp; omega))
  have hBb_11 : Bx w11 (w.heap.size + 1) [.int .i64 b.pc, .int .i64 b.len, .slice Ab1 b.ops.length cb1, .int .i64 b.fin, .int .i64 b.x, .int .i64 b.y, .int .i64 b.k] := hx11.bx (by (repeat' (first | (with_reducible exact hBb_10) | (with_reducible apply Bx.drew) | (with_reducible apply Bx.drewN) | (with_reducible refine Bx.alloc ?_ ?_ _ _) | (with_reducible refine Bx.setCell ?_ ?_ _))); all_goals (first | (simp; done) | (simp; omega) | omega)) (by first | omega | (simp; omega))
  have hBxa_11 : Bx w11 (w9.heap.size) [.int .i64 a.pc, .int .i64 a.len, .slice A_y a.ops.length c_y, .int .i64 a.fin, .int .i64 a.x, .int .i64 a.y, .int .i64 a.k] := hx11.bx (by (repeat' (first | (with_reducible exact hBxa_10) | (with_reducible apply Bx.drew) | (with_reducible apply Bx.drewN) | (with_reducible refine Bx.alloc ?_ ?_ _ _) | (with_reducible refine Bx.setCell ?_ ?_ _))); all_goals (first | (simp; done) | (simp; omega) | omega)) (by first | omega | (simp; omega))
  have hBxb_11 : Bx w11 (w10.heap.size) [.int .i64 b.pc, .int .i64 b.len, .slice A_z b.ops.length c_z, .int .i64 b.fin, .int .i64 b.x, .int .i64 b.y, .int .i64 b.k] := by have := hx11.bx (Bx.new _ _ _) (by first | (simp; done) | (simp; omega)); simpa using this
  go_wp2_with fail
  refine (to_ListCerPair l _ _ (hl.ext he11) nl).mono ?_
  rintro e w12 ⟨r_u, F_u, rfl, ho_u, hf_u, hx12⟩
  have hs12 := hx12.size
  try simp at hs12
  have he12 : Ext w w12 := Ext.trans (by (repeat' (first | (with_reducible exact Ext.refl _) | (with_reducible exact he11) | (with_reducible apply Ext.alloc) | (with_reducible apply Ext.drewN) | (with_reducible apply Ext.drew) | (with_reducible refine Ext.setCell ?_ ?_ _))); all_goals (first | (simp; done) | (simp; omega) | omega)) hx12
  have hBa_12 : Bx w12 (w.heap.size) [.int .i64 a.pc, .int .i64 a.len, .slice Aa1 a.ops.length ca1, .int .i64 a.fin, .int .i64 a.x, .int .i64 a.y, .int .i64 a.k] := hx12.bx (by (repeat' (first | (with_reducible exact hBa_11) | (with_reducible apply Bx.drew) | (with_reducible apply Bx.drewN) | (with_reducible refine Bx.alloc ?_ ?_ _ _) | (with_reducible refine Bx.setCell ?_ ?_ _))); all_goals (first | (simp; done) | (simp; omega) | omega)) (by first | omega | (simp; omega))
  have hBb_12 : Bx w12 (w.heap.size + 1) [.int .i64 b.pc, .int .i64 b.len, .slice Ab1 b.ops.length cb1, .int .i64 b.fin, .int .i64 b.x, .int .i64 b.y, .int .i64 b.k] := hx12.bx (by (repeat' (first | (with_reducible exact hBb_11) | (with_reducible apply Bx.drew) | (with_reducible apply Bx.drewN) | (with_reducible refine Bx.alloc ?_ ?_ _ _) | (with_reducible refine Bx.setCell ?_ ?_ _))); all_goals (first | (simp; done) | (simp; omega) | omega)) (by first | omega | (simp; omega))
  have hBxa_12 : Bx w12 (w9.heap.size) [.int .i64 a.pc, .int .i64 a.len, .slice A_y a.ops.length c_y, .int .i64 a.fin, .int .i64 a.x, .int .i64 a.y, .int .i64 a.k] := hx12.bx (by (repeat' (first | (with_reducible exact hBxa_11) | (with_reducible apply Bx.drew) | (with_reducible apply Bx.drewN) | (with_reducible refine Bx.alloc ?_ ?_ _ _) | (with_reducible refine Bx.setCell ?_ ?_ _))); all_goals (first | (simp; done) | (simp; omega) | omega)) (by first | omega | (simp; omega))
  have hBxb_12 : Bx w12 (w10.heap.size) [.int .i64 b.pc, .int .i64 b.len, .slice A_z b.ops.length c_z, .int .i64 b.fin, .int .i64 b.x, .int .i64 b.y, .int .i64 b.k] := hx12.bx (by (repeat' (first | (with_reducible exact hBxb_11) | (with_reducible apply Bx.drew) | (with_reducible apply Bx.drewN) | (with_reducible refine Bx.alloc ?_ ?_ _ _) | (with_reducible refine Bx.setCell ?_ ?_ _))); all_goals (first | (simp; done) | (simp; omega) | omega)) (by first | omega | (simp; omega))
  go_wp2_with fail
  refine (eq_ListCerPair l l _ _ _ (px.ext (Ext.trans (Ext.trans (by (repeat' (first | (with_reducible exact Ext.refl _) | (with_reducible apply Ext.alloc) | (with_reducible apply Ext.drewN) | (with_reducible apply Ext.drew) | (with_reducible refine Ext.setCell ?_ ?_ _))); all_goals (first | (simp; done) | (simp; omega) | omega)) hx11) hx12)) (ho_u.old hf_u)).mono ?_
  rintro e w13 ⟨rfl, hx13⟩
  have hs13 := hx13.size
  try simp at hs13
  have he13 : Ext w w13 := Ext.trans (by (repeat' (first | (with_reducible exact Ext.refl _) | (with_reducible exact he12) | (with_reducible apply Ext.alloc) | (with_reducible apply Ext.drewN) | (with_reducible apply Ext.drew) | (with_reducible refine Ext.setCell ?_ ?_ _))); all_goals (first | (simp; done) | (simp; omega) | omega)) hx13
  have hBa_13 : Bx w13 (w.heap.size) [.int .i64 a.pc, .int .i64 a.len, .slice Aa1 a.ops.length ca1, .int .i64 a.fin, .int .i64 a.x, .int .i64 a.y, .int .i64 a.k] := hx13.bx (by (repeat' (first | (with_reducible exact hBa_12) | (with_reducible apply Bx.drew) | (with_reducible apply Bx.drewN) | (with_reducible refine Bx.alloc ?_ ?_ _ _) | (with_reducible refine Bx.setCell ?_ ?_ _))); all_goals (first | (simp; done) | (simp; omega) | omega)) (by first | omega | (simp; omega))
  have hBb_13 : Bx w13 (w.heap.size + 1) [.int .i64 b.pc, .int .i64 b.len, .slice Ab1 b.ops.length cb1, .int .i64 b.fin, .int .i64 b.x, .int .i64 b.y, .int .i64 b.k] := hx13.bx (by (repeat' (first | (with_reducible exact hBb_12) | (with_reducible apply Bx.drew) | (with_reducible apply Bx.drewN) | (with_reducible refine Bx.alloc ?_ ?_ _ _) | (with_reducible refine Bx.setCell ?_ ?_ _))); all_goals (first | (simp; done) | (simp; omega) | omega)) (by first | omega | (simp; omega))
  have hBxa_13 : Bx w13 (w9.heap.size) [.int .i64 a.pc, .int .i64 a.len, .slice A_y a.ops.length c_y, .int .i64 a.fin, .int .i64 a.x, .int .i64 a.y, .int .i64 a.k] := hx13.bx (by (repeat' (first | (with_reducible exact hBxa_12) | (with_reducible apply Bx.drew) | (with_reducible apply Bx.drewN) | (with_reducible refine Bx.alloc ?_ ?_ _ _) | (with_reducible refine Bx.setCell ?_ ?_ _))); all_goals (first | (simp; done) | (simp; omega) | omega)) (by first | omega | (simp; omega))
  have hBxb_13 : Bx w13 (w10.heap.size) [.int .i64 b.pc, .int .i64 b.len, .slice A_z b.ops.length c_z, .int .i64 b.fin, .int .i64 b.x, .int .i64 b.y, .int .i64 b.k] := hx13.bx (by (repeat' (first | (with_reducible exact hBxb_12) | (with_reducible apply Bx.drew) | (with_reducible apply Bx.drewN) | (with_reducible refine Bx.alloc ?_ ?_ _ _) | (with_reducible refine Bx.setCell ?_ ?_ _))); all_goals (first | (simp; done) | (simp; omega) | omega)) (by first | omega | (simp; omega))
  have dl : decide (l = l) = true := by simp
  have yxa : w9.heap.size < w13.heap.size := by omega
  have xxa0 : w13.cell? ⟨w9.heap.size, 0, none⟩ = some (.int .i64 a.pc) := hBxa_13 0 _ rfl
  have xxa1 : w13.cell? ⟨w9.heap.size, 1, none⟩ = some (.int .i64 a.len) := hBxa_13 1 _ rfl
  have xxa2 : w13.cell? ⟨w9.heap.size, 2, none⟩ = some (.slice A_y a.ops.length c_y) := hBxa_13 2 _ rfl
  have xxa3 : w13.cell? ⟨w9.heap.size, 3, none⟩ = some (.int .i64 a.fin) := hBxa_13 3 _ rfl
  have xxa4 : w13.cell? ⟨w9.heap.size, 4, none⟩ = some (.int .i64 a.x) := hBxa_13 4 _ rfl
  have xxa5 : w13.cell? ⟨w9.heap.size, 5, none⟩ = some (.int .i64 a.y) := hBxa_13 5 _ rfl
  have xxa6 : w13.cell? ⟨w9.heap.size, 6, none⟩ = some (.int .i64 a.k) := hBxa_13 6 _ rfl
  have ya : w.heap.size < w13.heap.size := by omega
  have xa0 : w13.cell? ⟨w.heap.size, 0, none⟩ = some (.int .i64 a.pc) := hBa_13 0 _ rfl
  have xa1 : w13.cell? ⟨w.heap.size, 1, none⟩ = some (.int .i64 a.len) := hBa_13 1 _ rfl
  have xa2 : w13.cell? ⟨w.heap.size, 2, none⟩ = some (.slice Aa1 a.ops.length ca1) := hBa_13 2 _ rfl
  have xa3 : w13.cell? ⟨w.heap.size, 3, none⟩ = some (.int .i64 a.fin) := hBa_13 3 _ rfl
  have xa4 : w13.cell? ⟨w.heap.size, 4, none⟩ = some (.int .i64 a.x) := hBa_13 4 _ rfl
  have xa5 : w13.cell? ⟨w.heap.size, 5, none⟩ = some (.int .i64 a.y) := hBa_13 5 _ rfl
  have xa6 : w13.cell? ⟨w.heap.size, 6, none⟩ = some (.int .i64 a.k) := hBa_13 6 _ rfl
  go_wp2_with fail
  go_region_held3 (fun w' => w'.cell? ⟨w9.heap.size, 0, none⟩ = some (.int .i64 a.pc) ∧ w'.cell? ⟨w9.heap.size, 1, none⟩ = some (.int .i64 a.len) ∧ w'.cell? ⟨w9.heap.size, 2, none⟩ = some (.slice A_y a.ops.length c_y) ∧ w'.cell? ⟨w9.heap.size, 3, none⟩ = some (.int .i64 a.fin) ∧ w'.cell? ⟨w9.heap.size, 4, none⟩ = some (.int .i64 a.x) ∧ w'.cell? ⟨w9.heap.size, 5, none⟩ = some (.int .i64 a.y) ∧ w'.cell? ⟨w9.heap.size, 6, none⟩ = some (.int .i64 a.k) ∧ w'.cell? ⟨w.heap.size, 0, none⟩ = some (.int .i64 a.pc) ∧ w'.cell? ⟨w.heap.size, 1, none⟩ = some (.int .i64 a.len) ∧ w'.cell? ⟨w.heap.size, 2, none⟩ = some (.slice Aa1 a.ops.length ca1) ∧ w'.cell? ⟨w.heap.size, 3, none⟩ = some (.int .i64 a.fin) ∧ w'.cell? ⟨w.heap.size, 4, none⟩ = some (.int .i64 a.x) ∧ w'.cell? ⟨w.heap.size, 5, none⟩ = some (.int .i64 a.y) ∧ w'.cell? ⟨w.heap.size, 6, none⟩ = some (.int .i64 a.k))
    (first | go_keep | (go_split_ands; (repeat' apply And.intro) <;> (refine (hx.cell ?_).trans ?_ <;> first | assumption | (simp; omega) | omega)))
    (first | ((go_at_call 14; refine (to_IrBlock a _ _ (by refine ha1.ext (Ext.trans he13 ?_); (repeat' (first | (with_reducible exact Ext.refl _) | (with_reducible apply Ext.alloc) | (with_reducible apply Ext.drewN) | (with_reducible apply Ext.drew) | (with_reducible refine Ext.setCell ?_ ?_ _))); all_goals (first | (simp; done) | (simp; omega) | omega)) na).mono ?_); (rintro e w14 ⟨rd, Fd, rfl, hod, hfd, hx⟩); (have hx14 := hx); (have hs14 := hx.size); (try simp at hs14)) | ((go_at_call 17; refine (eq_IrBlock a a _ _ _ (py.ext (Ext.trans (Ext.trans (Ext.trans (Ext.trans (by (repeat' (first | (with_reducible exact Ext.refl _) | (with_reducible apply Ext.alloc) | (with_reducible apply Ext.drewN) | (with_reducible apply Ext.drew) | (with_reducible refine Ext.setCell ?_ ?_ _))); all_goals (first | (simp; done) | (simp; omega) | omega)) hx11) hx12) hx13) (Ext.trans (by (repeat' (first | (with_reducible exact Ext.refl _) | (with_reducible apply Ext.alloc) | (with_reducible apply Ext.drewN) | (with_reducible apply Ext.drew) | (with_reducible refine Ext.setCell ?_ ?_ _))); all_goals (first | (simp; done) | (simp; omega) | omega)) hx14))) (hod.old hfd)).mono ?_); (rintro e w15 ⟨rfl, hx⟩); (have hx15 := hx); (have hs15 := hx.size); (try simp at hs15)))
  clear xxa0 xxa1 xxa2 xxa3 xxa4 xxa5 xxa6 yxa
  clear xa0 xa1 xa2 xa3 xa4 xa5 xa6 ya
  have he14 : Ext w w14 := Ext.trans (by (repeat' (first | (with_reducible exact Ext.refl _) | (with_reducible exact he13) | (with_reducible apply Ext.alloc) | (with_reducible apply Ext.drewN) | (with_reducible apply Ext.drew) | (with_reducible refine Ext.setCell ?_ ?_ _))); all_goals (first | (simp; done) | (simp; omega) | omega)) hx14
  have hBa_14 : Bx w14 (w.heap.size) [.int .i64 a.pc, .int .i64 a.len, .slice Aa1 a.ops.length ca1, .int .i64 a.fin, .int .i64 a.x, .int .i64 a.y, .int .i64 a.k] := hx14.bx (by (repeat' (first | (with_reducible exact hBa_13) | (with_reducible apply Bx.drew) | (with_reducible apply Bx.drewN) | (with_reducible refine Bx.alloc ?_ ?_ _ _) | (with_reducible refine Bx.setCell ?_ ?_ _))); all_goals (first | (simp; done) | (simp; omega) | omega)) (by first | omega | (simp; omega))
  have hBb_14 : Bx w14 (w.heap.size + 1) [.int .i64 b.pc, .int .i64 b.len, .slice Ab1 b.ops.length cb1, .int .i64 b.fin, .int .i64 b.x, .int .i64 b.y, .int .i64 b.k] := hx14.bx (by (repeat' (first | (with_reducible exact hBb_13) | (with_reducible apply Bx.drew) | (with_reducible apply Bx.drewN) | (with_reducible refine Bx.alloc ?_ ?_ _ _) | (with_reducible refine Bx.setCell ?_ ?_ _))); all_goals (first | (simp; done) | (simp; omega) | omega)) (by first | omega | (simp; omega))
  have hBxa_14 : Bx w14 (w9.heap.size) [.int .i64 a.pc, .int .i64 a.len, .slice A_y a.ops.length c_y, .int .i64 a.fin, .int .i64 a.x, .int .i64 a.y, .int .i64 a.k] := hx14.bx (by (repeat' (first | (with_reducible exact hBxa_13) | (with_reducible apply Bx.drew) | (with_reducible apply Bx.drewN) | (with_reducible refine Bx.alloc ?_ ?_ _ _) | (with_reducible refine Bx.setCell ?_ ?_ _))); all_goals (first | (simp; done) | (simp; omega) | omega)) (by first | omega | (simp; omega))
  have hBxb_14 : Bx w14 (w10.heap.size) [.int .i64 b.pc, .int .i64 b.len, .slice A_z b.ops.length c_z, .int .i64 b.fin, .int .i64 b.x, .int .i64 b.y, .int .i64 b.k] := hx14.bx (by (repeat' (first | (with_reducible exact hBxb_13) | (with_reducible apply Bx.drew) | (with_reducible apply Bx.drewN) | (with_reducible refine Bx.alloc ?_ ?_ _ _) | (with_reducible refine Bx.setCell ?_ ?_ _))); all_goals (first | (simp; done) | (simp; omega) | omega)) (by first | omega | (simp; omega))
  have he15 : Ext w w15 := Ext.trans (by (repeat' (first | (with_reducible exact Ext.refl _) | (with_reducible exact he14) | (with_reducible apply Ext.alloc) | (with_reducible apply Ext.drewN) | (with_reducible apply Ext.drew) | (with_reducible refine Ext.setCell ?_ ?_ _))); all_goals (first | (simp; done) | (simp; omega) | omega)) hx15
  have hBa_15 : Bx w15 (w.heap.size) [.int .i64 a.pc, .int .i64 a.len, .slice Aa1 a.ops.length ca1, .int .i64 a.fin, .int .i64 a.x, .int .i64 a.y, .int .i64 a.k] := hx15.bx (by (repeat' (first | (with_reducible exact hBa_14) | (with_reducible apply Bx.drew) | (with_reducible apply Bx.drewN) | (with_reducible refine Bx.alloc ?_ ?_ _ _) | (with_reducible refine Bx.setCell ?_ ?_ _))); all_goals (first | (simp; done) | (simp; omega) | omega)) (by first | omega | (simp; omega))
  have hBb_15 : Bx w15 (w.heap.size + 1) [.int .i64 b.pc, .int .i64 b.len, .slice Ab1 b.ops.length cb1, .int .i64 b.fin, .int .i64 b.x, .int .i64 b.y, .int .i64 b.k] := hx15.bx (by (repeat' (first | (with_reducible exact hBb_14) | (with_reducible apply Bx.drew) | (with_reducible apply Bx.drewN) | (with_reducible refine Bx.alloc ?_ ?_ _ _) | (with_reducible refine Bx.setCell ?_ ?_ _))); all_goals (first | (simp; done) | (simp; omega) | omega)) (by first | omega | (simp; omega))
  have hBxa_15 : Bx w15 (w9.heap.size) [.int .i64 a.pc, .int .i64 a.len, .slice A_y a.ops.length c_y, .int .i64 a.fin, .int .i64 a.x, .int .i64 a.y, .int .i64 a.k] := hx15.bx (by (repeat' (first | (with_reducible exact hBxa_14) | (with_reducible apply Bx.drew) | (with_reducible apply Bx.drewN) | (with_reducible refine Bx.alloc ?_ ?_ _ _) | (with_reducible refine Bx.setCell ?_ ?_ _))); all_goals (first | (simp; done) | (simp; omega) | omega)) (by first | omega | (simp; omega))
  have hBxb_15 : Bx w15 (w10.heap.size) [.int .i64 b.pc, .int .i64 b.len, .slice A_z b.ops.length c_z, .int .i64 b.fin, .int .i64 b.x, .int .i64 b.y, .int .i64 b.k] := hx15.bx (by (repeat' (first | (with_reducible exact hBxb_14) | (with_reducible apply Bx.drew) | (with_reducible apply Bx.drewN) | (with_reducible refine Bx.alloc ?_ ?_ _ _) | (with_reducible refine Bx.setCell ?_ ?_ _))); all_goals (first | (simp; done) | (simp; omega) | omega)) (by first | omega | (simp; omega))
  have yxb : w10.heap.size < w15.heap.size := by omega
  have xxb0 : w15.cell? ⟨w10.heap.size, 0, none⟩ = some (.int .i64 b.pc) := hBxb_15 0 _ rfl
  have xxb1 : w15.cell? ⟨w10.heap.size, 1, none⟩ = some (.int .i64 b.len) := hBxb_15 1 _ rfl
  have xxb2 : w15.cell? ⟨w10.heap.size, 2, none⟩ = some (.slice A_z b.ops.length c_z) := hBxb_15 2 _ rfl
  have xxb3 : w15.cell? ⟨w10.heap.size, 3, none⟩ = some (.int .i64 b.fin) := hBxb_15 3 _ rfl
  have xxb4 : w15.cell? ⟨w10.heap.size, 4, none⟩ = some (.int .i64 b.x) := hBxb_15 4 _ rfl
  have xxb5 : w15.cell? ⟨w10.heap.size, 5, none⟩ = some (.int .i64 b.y) := hBxb_15 5 _ rfl
  have xxb6 : w15.cell? ⟨w10.heap.size, 6, none⟩ = some (.int .i64 b.k) := hBxb_15 6 _ rfl
  have yb : w.heap.size + 1 < w15.heap.size := by omega
  have xb0 : w15.cell? ⟨w.heap.size + 1, 0, none⟩ = some (.int .i64 b.pc) := hBb_15 0 _ rfl
  have xb1 : w15.cell? ⟨w.heap.size + 1, 1, none⟩ = some (.int .i64 b.len) := hBb_15 1 _ rfl
  have xb2 : w15.cell? ⟨w.heap.size + 1, 2, none⟩ = some (.slice Ab1 b.ops.length cb1) := hBb_15 2 _ rfl
  have xb3 : w15.cell? ⟨w.heap.size + 1, 3, none⟩ = some (.int .i64 b.fin) := hBb_15 3 _ rfl
  have xb4 : w15.cell? ⟨w.heap.size + 1, 4, none⟩ = some (.int .i64 b.x) := hBb_15 4 _ rfl
  have xb5 : w15.cell? ⟨w.heap.size + 1, 5, none⟩ = some (.int .i64 b.y) := hBb_15 5 _ rfl
  have xb6 : w15.cell? ⟨w.heap.size + 1, 6, none⟩ = some (.int .i64 b.k) := hBb_15 6 _ rfl
  go_wp2_with fail
  go_region_held3 (fun w' => w'.cell? ⟨w10.heap.size, 0, none⟩ = some (.int .i64 b.pc) ∧ w'.cell? ⟨w10.heap.size, 1, none⟩ = some (.int .i64 b.len) ∧ w'.cell? ⟨w10.heap.size, 2, none⟩ = some (.slice A_z b.ops.length c_z) ∧ w'.cell? ⟨w10.heap.size, 3, none⟩ = some (.int .i64 b.fin) ∧ w'.cell? ⟨w10.heap.size, 4, none⟩ = some (.int .i64 b.x) ∧ w'.cell? ⟨w10.heap.size, 5, none⟩ = some (.int .i64 b.y) ∧ w'.cell? ⟨w10.heap.size, 6, none⟩ = some (.int .i64 b.k) ∧ w'.cell? ⟨w.heap.size + 1, 0, none⟩ = some (.int .i64 b.pc) ∧ w'.cell? ⟨w.heap.size + 1, 1, none⟩ = some (.int .i64 b.len) ∧ w'.cell? ⟨w.heap.size + 1, 2, none⟩ = some (.slice Ab1 b.ops.length cb1) ∧ w'.cell? ⟨w.heap.size + 1, 3, none⟩ = some (.int .i64 b.fin) ∧ w'.cell? ⟨w.heap.size + 1, 4, none⟩ = some (.int .i64 b.x) ∧ w'.cell? ⟨w.heap.size + 1, 5, none⟩ = some (.int .i64 b.y) ∧ w'.cell? ⟨w.heap.size + 1, 6, none⟩ = some (.int .i64 b.k))
    (first | go_keep | (go_split_ands; (repeat' apply And.intro) <;> (refine (hx.cell ?_).trans ?_ <;> first | assumption | (simp; omega) | omega)))
    (first | ((go_at_call 14; refine (to_IrBlock b _ _ (by refine hb1.ext (Ext.trans he15 ?_); (repeat' (first | (with_reducible exact Ext.refl _) | (with_reducible apply Ext.alloc) | (with_reducible apply Ext.drewN) | (with_reducible apply Ext.drew) | (with_reducible refine Ext.setCell ?_ ?_ _))); all_goals (first | (simp; done) | (simp; omega) | omega)) nb).mono ?_); (rintro e w16 ⟨re, Fe, rfl, hoe, hfe, hx⟩); (have hx16 := hx); (have hs16 := hx.size); (try simp at hs16)) | ((go_at_call 17; refine (eq_IrBlock b b _ _ _ (pz.ext (Ext.trans (Ext.trans (Ext.trans (Ext.trans (Ext.trans (Ext.trans (by (repeat' (first | (with_reducible exact Ext.refl _) | (with_reducible apply Ext.alloc) | (with_reducible apply Ext.drewN) | (with_reducible apply Ext.drew) | (with_reducible refine Ext.setCell ?_ ?_ _))); all_goals (first | (simp; done) | (simp; omega) | omega)) hx11) hx12) hx13) (Ext.trans (by (repeat' (first | (with_reducible exact Ext.refl _) | (with_reducible apply Ext.alloc) | (with_reducible apply Ext.drewN) | (with_reducible apply Ext.drew) | (with_reducible refine Ext.setCell ?_ ?_ _))); all_goals (first | (simp; done) | (simp; omega) | omega)) hx14)) hx15) (Ext.trans (by (repeat' (first | (with_reducible exact Ext.refl _) | (with_reducible apply Ext.alloc) | (with_reducible apply Ext.drewN) | (with_reducible apply Ext.drew) | (with_reducible refine Ext.setCell ?_ ?_ _))); all_goals (first | (simp; done) | (simp; omega) | omega)) hx16))) (hoe.old hfe)).mono ?_); (rintro e w17 ⟨rfl, hx⟩); (have hx17 := hx); (have hs17 := hx.size); (try simp at hs17)))
  clear xxb0 xxb1 xxb2 xxb3 xxb4 xxb5 xxb6 yxb
  clear xb0 xb1 xb2 xb3 xb4 xb5 xb6 yb
  have he16 : Ext w w16 := Ext.trans (by (repeat' (first | (with_reducible exact Ext.refl _) | (with_reducible exact he15) | (with_reducible apply Ext.alloc) | (with_reducible apply Ext.drewN) | (with_reducible apply Ext.drew) | (with_reducible refine Ext.setCell ?_ ?_ _))); all_goals (first | (simp; done) | (simp; omega) | omega)) hx16
  have hBa_16 : Bx w16 (w.heap.size) [.int .i64 a.pc, .int .i64 a.len, .slice Aa1 a.ops.length ca1, .int .i64 a.fin, .int .i64 a.x, .int .i64 a.y, .int .i64 a.k] := hx16.bx (by (repeat' (first | (with_reducible exact hBa_15) | (with_reducible apply Bx.drew) | (with_reducible apply Bx.drewN) | (with_reducible refine Bx.alloc ?_ ?_ _ _) | (with_reducible refine Bx.setCell ?_ ?_ _))); all_goals (first | (simp; done) | (simp; omega) | omega)) (by first | omega | (simp; omega))
  have hBb_16 : Bx w16 (w.heap.size + 1) [.int .i64 b.pc, .int .i64 b.len, .slice Ab1 b.ops.length cb1, .int .i64 b.fin, .int .i64 b.x, .int .i64 b.y, .int .i64 b.k] := hx16.bx (by (repeat' (first | (with_reducible exact hBb_15) | (with_reducible apply Bx.drew) | (with_reducible apply Bx.drewN) | (with_reducible refine Bx.alloc ?_ ?_ _ _) | (with_reducible refine Bx.setCell ?_ ?_ _))); all_goals (first | (simp; done) | (simp; omega) | omega)) (by first | omega | (simp; omega))
  have hBxa_16 : Bx w16 (w9.heap.size) [.int .i64 a.pc, .int .i64 a.len, .slice A_y a.ops.length c_y, .int .i64 a.fin, .int .i64 a.x, .int .i64 a.y, .int .i64 a.k] := hx16.bx (by (repeat' (first | (with_reducible exact hBxa_15) | (with_reducible apply Bx.drew) | (with_reducible apply Bx.drewN) | (with_reducible refine Bx.alloc ?_ ?_ _ _) | (with_reducible refine Bx.setCell ?_ ?_ _))); all_goals (first | (simp; done) | (simp; omega) | omega)) (by first | omega | (simp; omega))
  have hBxb_16 : Bx w16 (w10.heap.size) [.int .i64 b.pc, .int .i64 b.len, .slice A_z b.ops.length c_z, .int .i64 b.fin, .int .i64 b.x, .int .i64 b.y, .int .i64 b.k] := hx16.bx (by (repeat' (first | (with_reducible exact hBxb_15) | (with_reducible apply Bx.drew) | (with_reducible apply Bx.drewN) | (with_reducible refine Bx.alloc ?_ ?_ _ _) | (with_reducible refine Bx.setCell ?_ ?_ _))); all_goals (first | (simp; done) | (simp; omega) | omega)) (by first | omega | (simp; omega))
  have he17 : Ext w w17 := Ext.trans (by (repeat' (first | (with_reducible exact Ext.refl _) | (with_reducible exact he16) | (with_reducible apply Ext.alloc) | (with_reducible apply Ext.drewN) | (with_reducible apply Ext.drew) | (with_reducible refine Ext.setCell ?_ ?_ _))); all_goals (first | (simp; done) | (simp; omega) | omega)) hx17
  have hBa_17 : Bx w17 (w.heap.size) [.int .i64 a.pc, .int .i64 a.len, .slice Aa1 a.ops.length ca1, .int .i64 a.fin, .int .i64 a.x, .int .i64 a.y, .int .i64 a.k] := hx17.bx (by (repeat' (first | (with_reducible exact hBa_16) | (with_reducible apply Bx.drew) | (with_reducible apply Bx.drewN) | (with_reducible refine Bx.alloc ?_ ?_ _ _) | (with_reducible refine Bx.setCell ?_ ?_ _))); all_goals (first | (simp; done) | (simp; omega) | omega)) (by first | omega | (simp; omega))
  have hBb_17 : Bx w17 (w.heap.size + 1) [.int .i64 b.pc, .int .i64 b.len, .slice Ab1 b.ops.length cb1, .int .i64 b.fin, .int .i64 b.x, .int .i64 b.y, .int .i64 b.k] := hx17.bx (by (repeat' (first | (with_reducible exact hBb_16) | (with_reducible apply Bx.drew) | (with_reducible apply Bx.drewN) | (with_reducible refine Bx.alloc ?_ ?_ _ _) | (with_reducible refine Bx.setCell ?_ ?_ _))); all_goals (first | (simp; done) | (simp; omega) | omega)) (by first | omega | (simp; omega))
  have hBxa_17 : Bx w17 (w9.heap.size) [.int .i64 a.pc, .int .i64 a.len, .slice A_y a.ops.length c_y, .int .i64 a.fin, .int .i64 a.x, .int .i64 a.y, .int .i64 a.k] := hx17.bx (by (repeat' (first | (with_reducible exact hBxa_16) | (with_reducible apply Bx.drew) | (with_reducible apply Bx.drewN) | (with_reducible refine Bx.alloc ?_ ?_ _ _) | (with_reducible refine Bx.setCell ?_ ?_ _))); all_goals (first | (simp; done) | (simp; omega) | omega)) (by first | omega | (simp; omega))
  have hBxb_17 : Bx w17 (w10.heap.size) [.int .i64 b.pc, .int .i64 b.len, .slice A_z b.ops.length c_z, .int .i64 b.fin, .int .i64 b.x, .int .i64 b.y, .int .i64 b.k] := hx17.bx (by (repeat' (first | (with_reducible exact hBxb_16) | (with_reducible apply Bx.drew) | (with_reducible apply Bx.drewN) | (with_reducible refine Bx.alloc ?_ ?_ _ _) | (with_reducible refine Bx.setCell ?_ ?_ _))); all_goals (first | (simp; done) | (simp; omega) | omega)) (by first | omega | (simp; omega))
  go_wp2
  go_ret
  exact ⟨rfl, he17⟩

end Go.Proofs.Ytaehbokpnahakaa
