/-
  The law FnExactCerPut returns true for every input.
-/
import Derived.Test.YtjemadbhpbbhlaaCerts
import Derived.Test.YtjemadbhpbbhlaaTo
import Derived.Test.YtjemadbhpbbhlaaEq
import Derived.Test.YtjemadbhpbbhlaaSz
import Derived.Test.YtjemadbhpbbhlaaMark
import Derived.Test.YtjemadbhpbbhlaaMarkN
import Derived.Test.YtjemadbhpbbhlaaCt
import Derived.Test.YtjemadbhpbbhlaaRegLib
import Derived.Test.YtjemadbhpbbhlaaCertLib
namespace Go.Proofs.Ytjemadbhpbbhlaa
open Go.RowKit

set_option linter.unusedVariables false
set_option linter.unusedSimpArgs false
set_option maxRecDepth 100000

set_option maxHeartbeats 16000000 in
theorem lawExactCerPut_any (l : List CerPair) (p : CerPair) (vl vp1 vp2 : Value) (w : World) (hl : Sl w (Old w) vl l) (hp1 : Sl w (Old w) vp1 p.base.ops) (hp2 : Sl w (Old w) vp2 p.made.ops) (hkp : p.Ok)  :
    Calls Try.prog 6 #[vl, .agg #[.int .i64 p.base.pc, .int .i64 p.base.len, vp1, .int .i64 p.base.fin, .int .i64 p.base.x, .int .i64 p.base.y, .int .i64 p.base.k, .int .i64 p.made.pc, .int .i64 p.made.len, vp2, .int .i64 p.made.fin, .int .i64 p.made.x, .int .i64 p.made.y, .int .i64 p.made.k]] w fun e w' => e = .returned (.bool true) ∧ Ext w w' := by
  obtain ⟨Al, cl, rfl, hll, hml⟩ := hl.form
  obtain ⟨Ap1, cp1, rfl, hlp1, hmp1⟩ := hp1.form
  obtain ⟨Ap2, cp2, rfl, hlp2, hmp2⟩ := hp2.form
  go_enter Try.func6, Try.ntmps6
  go_wp2_with fail
  have he0 : Ext w (w.alloc (Obj.cells #[.int .i64 p.base.pc, .int .i64 p.base.len, (.slice Ap1 p.base.ops.length cp1), .int .i64 p.base.fin, .int .i64 p.base.x, .int .i64 p.base.y, .int .i64 p.base.k, .int .i64 p.made.pc, .int .i64 p.made.len, (.slice Ap2 p.made.ops.length cp2), .int .i64 p.made.fin, .int .i64 p.made.x, .int .i64 p.made.y, .int .i64 p.made.k] 47)) := (by (repeat' (first | (with_reducible exact Ext.refl _) | (with_reducible apply Ext.alloc) | (with_reducible apply Ext.drewN) | (with_reducible apply Ext.drew) | (with_reducible refine Ext.setCell ?_ ?_ _))); all_goals (first | (simp; done) | (simp; omega) | omega))
  have hs0 : w.heap.size + 1 ≤ ((w.alloc (Obj.cells #[.int .i64 p.base.pc, .int .i64 p.base.len, (.slice Ap1 p.base.ops.length cp1), .int .i64 p.base.fin, .int .i64 p.base.x, .int .i64 p.base.y, .int .i64 p.base.k, .int .i64 p.made.pc, .int .i64 p.made.len, (.slice Ap2 p.made.ops.length cp2), .int .i64 p.made.fin, .int .i64 p.made.x, .int .i64 p.made.y, .int .i64 p.made.k] 47))).heap.size := by simp
  have hq0 := hide (show ((w.alloc (Obj.cells #[.int .i64 p.base.pc, .int .i64 p.base.len, (.slice Ap1 p.base.ops.length cp1), .int .i64 p.base.fin, .int .i64 p.base.x, .int .i64 p.base.y, .int .i64 p.base.k, .int .i64 p.made.pc, .int .i64 p.made.len, (.slice Ap2 p.made.ops.length cp2), .int .i64 p.made.fin, .int .i64 p.made.x, .int .i64 p.made.y, .int .i64 p.made.k] 47))).heap.size = w.heap.size + 1 by simp)
  have hBp_0 : Bx (w.alloc (Obj.cells #[.int .i64 p.base.pc, .int .i64 p.base.len, (.slice Ap1 p.base.ops.length cp1), .int .i64 p.base.fin, .int .i64 p.base.x, .int .i64 p.base.y, .int .i64 p.base.k, .int .i64 p.made.pc, .int .i64 p.made.len, (.slice Ap2 p.made.ops.length cp2), .int .i64 p.made.fin, .int .i64 p.made.x, .int .i64 p.made.y, .int .i64 p.made.k] 47)) (w.heap.size) [.int .i64 p.base.pc, .int .i64 p.base.len, (.slice Ap1 p.base.ops.length cp1), .int .i64 p.base.fin, .int .i64 p.base.x, .int .i64 p.base.y, .int .i64 p.base.k, .int .i64 p.made.pc, .int .i64 p.made.len, (.slice Ap2 p.made.ops.length cp2), .int .i64 p.made.fin, .int .i64 p.made.x, .int .i64 p.made.y, .int .i64 p.made.k] := (by have := (Bx.new w #[.int .i64 p.base.pc, .int .i64 p.base.len, (.slice Ap1 p.base.ops.length cp1), .int .i64 p.base.fin, .int .i64 p.base.x, .int .i64 p.base.y, .int .i64 p.base.k, .int .i64 p.made.pc, .int .i64 p.made.len, (.slice Ap2 p.made.ops.length cp2), .int .i64 p.made.fin, .int .i64 p.made.x, .int .i64 p.made.y, .int .i64 p.made.k] 47); simpa using this)
  have hFp_0 : ∀ oo, ((w.alloc (Obj.cells #[.int .i64 p.base.pc, .int .i64 p.base.len, (.slice Ap1 p.base.ops.length cp1), .int .i64 p.base.fin, .int .i64 p.base.x, .int .i64 p.base.y, .int .i64 p.base.k, .int .i64 p.made.pc, .int .i64 p.made.len, (.slice Ap2 p.made.ops.length cp2), .int .i64 p.made.fin, .int .i64 p.made.x, .int .i64 p.made.y, .int .i64 p.made.k] 47))).frozen? ⟨w.heap.size, oo, none⟩ = false := fun oo => by simp
  generalize (w.alloc (Obj.cells #[.int .i64 p.base.pc, .int .i64 p.base.len, (.slice Ap1 p.base.ops.length cp1), .int .i64 p.base.fin, .int .i64 p.base.x, .int .i64 p.base.y, .int .i64 p.base.k, .int .i64 p.made.pc, .int .i64 p.made.len, (.slice Ap2 p.made.ops.length cp2), .int .i64 p.made.fin, .int .i64 p.made.x, .int .i64 p.made.y, .int .i64 p.made.k] 47)) = w0 at *
  go_wp2_with fail
  refine (sz_ListCerPair l _ 1048576 _ (hl.ext (Ext.trans he0 (by (repeat' (first | (with_reducible exact Ext.refl _) | (with_reducible apply Ext.alloc) | (with_reducible apply Ext.drewN) | (with_reducible apply Ext.drew) | (with_reducible refine Ext.setCell ?_ ?_ _))); all_goals (first | (simp; done) | (simp; omega) | omega)))) (by omega) (by omega)).mono ?_
  rintro e w1 ⟨rzl, rfl, hr, hy⟩
  have hx1 : Ext w0 w1 := Ext.trans (by (repeat' (first | (with_reducible exact Ext.refl _) | (with_reducible apply Ext.alloc) | (with_reducible apply Ext.drewN) | (with_reducible apply Ext.drew) | (with_reducible refine Ext.setCell ?_ ?_ _))); all_goals (first | (simp; done) | (simp; omega) | omega)) hy
  have hs1 := hx1.size
  have he1 : Ext w w1 := he0.trans hx1
  have hBp_1 : Bx w1 (w.heap.size) [.int .i64 p.base.pc, .int .i64 p.base.len, (.slice Ap1 p.base.ops.length cp1), .int .i64 p.base.fin, .int .i64 p.base.x, .int .i64 p.base.y, .int .i64 p.base.k, .int .i64 p.made.pc, .int .i64 p.made.len, (.slice Ap2 p.made.ops.length cp2), .int .i64 p.made.fin, .int .i64 p.made.x, .int .i64 p.made.y, .int .i64 p.made.k] := hx1.bx hBp_0 (by omega)
  have hFp_1 : ∀ oo, w1.frozen? ⟨w.heap.size, oo, none⟩ = false := fun oo => (hx1.frozen (by omega)).trans (hFp_0 oo)
  clear hBp_0 hFp_0
  clear hy
  rcases hr with ⟨hq, hl0⟩ | ⟨hq, hl0⟩
  rotate_left
  · have hz : rzl < 0 := by omega
    clear hq
    go_wp2
    go_ret
    exact ⟨rfl, he1⟩
  have hzl : 0 ≤ rzl := by omega
  have hyl : rzl ≤ 1048576 := by omega
  have nl : Bulk.blk l ≤ 1048576 := by omega
  have ml : ((Bulk.blk l : Nat) : Int) ≤ 1048576 - rzl := by omega
  have HQl := hide hq
  clear hq hl0
  have yp : w.heap.size < w1.heap.size := by omega
  have xp0 : w1.cell? ⟨w.heap.size, 0, none⟩ = some (.int .i64 p.base.pc) := hBp_1 0 _ rfl
  have xp1 : w1.cell? ⟨w.heap.size, 1, none⟩ = some (.int .i64 p.base.len) := hBp_1 1 _ rfl
  have xp2 : w1.cell? ⟨w.heap.size, 2, none⟩ = some ((.slice Ap1 p.base.ops.length cp1)) := hBp_1 2 _ rfl
  have xp3 : w1.cell? ⟨w.heap.size, 3, none⟩ = some (.int .i64 p.base.fin) := hBp_1 3 _ rfl
  have xp4 : w1.cell? ⟨w.heap.size, 4, none⟩ = some (.int .i64 p.base.x) := hBp_1 4 _ rfl
  have xp5 : w1.cell? ⟨w.heap.size, 5, none⟩ = some (.int .i64 p.base.y) := hBp_1 5 _ rfl
  have xp6 : w1.cell? ⟨w.heap.size, 6, none⟩ = some (.int .i64 p.base.k) := hBp_1 6 _ rfl
  have xp7 : w1.cell? ⟨w.heap.size, 7, none⟩ = some (.int .i64 p.made.pc) := hBp_1 7 _ rfl
  have xp8 : w1.cell? ⟨w.heap.size, 8, none⟩ = some (.int .i64 p.made.len) := hBp_1 8 _ rfl
  have xp9 : w1.cell? ⟨w.heap.size, 9, none⟩ = some ((.slice Ap2 p.made.ops.length cp2)) := hBp_1 9 _ rfl
  have xp10 : w1.cell? ⟨w.heap.size, 10, none⟩ = some (.int .i64 p.made.fin) := hBp_1 10 _ rfl
  have xp11 : w1.cell? ⟨w.heap.size, 11, none⟩ = some (.int .i64 p.made.x) := hBp_1 11 _ rfl
  have xp12 : w1.cell? ⟨w.heap.size, 12, none⟩ = some (.int .i64 p.made.y) := hBp_1 12 _ rfl
  have xp13 : w1.cell? ⟨w.heap.size, 13, none⟩ = some (.int .i64 p.made.k) := hBp_1 13 _ rfl
  go_wp2_with fail
  clear xp0 xp1 xp2 xp3 xp4 xp5 xp6 xp7 xp8 xp9 xp10 xp11 xp12 xp13 yp
  refine (sz_CerPair p _ _ rzl _ (hp1.ext (Ext.trans he1 (by (repeat' (first | (with_reducible exact Ext.refl _) | (with_reducible apply Ext.alloc) | (with_reducible apply Ext.drewN) | (with_reducible apply Ext.drew) | (with_reducible refine Ext.setCell ?_ ?_ _))); all_goals (first | (simp; done) | (simp; omega) | omega)))) (hp2.ext (Ext.trans he1 (by (repeat' (first | (with_reducible exact Ext.refl _) | (with_reducible apply Ext.alloc) | (with_reducible apply Ext.drewN) | (with_reducible apply Ext.drew) | (with_reducible refine Ext.setCell ?_ ?_ _))); all_goals (first | (simp; done) | (simp; omega) | omega)))) (by omega) (by omega)).mono ?_
  rintro e w2 ⟨rzp, rfl, hr, hy⟩
  have hx2 : Ext w1 w2 := Ext.trans (by (repeat' (first | (with_reducible exact Ext.refl _) | (with_reducible apply Ext.alloc) | (with_reducible apply Ext.drewN) | (with_reducible apply Ext.drew) | (with_reducible refine Ext.setCell ?_ ?_ _))); all_goals (first | (simp; done) | (simp; omega) | omega)) hy
  have hs2 := hx2.size
  have he2 : Ext w w2 := he1.trans hx2
  have hBp_2 : Bx w2 (w.heap.size) [.int .i64 p.base.pc, .int .i64 p.base.len, (.slice Ap1 p.base.ops.length cp1), .int .i64 p.base.fin, .int .i64 p.base.x, .int .i64 p.base.y, .int .i64 p.base.k, .int .i64 p.made.pc, .int .i64 p.made.len, (.slice Ap2 p.made.ops.length cp2), .int .i64 p.made.fin, .int .i64 p.made.x, .int .i64 p.made.y, .int .i64 p.made.k] := hx2.bx hBp_1 (by omega)
  have hFp_2 : ∀ oo, w2.frozen? ⟨w.heap.size, oo, none⟩ = false := fun oo => (hx2.frozen (by omega)).trans (hFp_1 oo)
  clear hBp_1 hFp_1
  clear hy
  rcases hr with ⟨hq, hl0⟩ | ⟨hq, hl0⟩
  rotate_left
  · have hz : rzp < 0 := by omega
    clear hq
    go_wp2
    go_ret
    exact ⟨rfl, he2⟩
  have hzp : 0 ≤ rzp := by omega
  have hyp : rzp ≤ 1048576 := by omega
  have np : Bulk.blk p ≤ 1048576 := by omega
  have mp : ((Bulk.blk p : Nat) : Int) ≤ rzl - rzp := by omega
  have HQp := hide hq
  clear hq hl0
  go_wp2_with fail
  have yp : w.heap.size < w2.heap.size := by omega
  have xp0 : w2.cell? ⟨w.heap.size, 0, none⟩ = some (.int .i64 p.base.pc) := hBp_2 0 _ rfl
  have xp1 : w2.cell? ⟨w.heap.size, 1, none⟩ = some (.int .i64 p.base.len) := hBp_2 1 _ rfl
  have xp2 : w2.cell? ⟨w.heap.size, 2, none⟩ = some ((.slice Ap1 p.base.ops.length cp1)) := hBp_2 2 _ rfl
  have xp3 : w2.cell? ⟨w.heap.size, 3, none⟩ = some (.int .i64 p.base.fin) := hBp_2 3 _ rfl
  have xp4 : w2.cell? ⟨w.heap.size, 4, none⟩ = some (.int .i64 p.base.x) := hBp_2 4 _ rfl
  have xp5 : w2.cell? ⟨w.heap.size, 5, none⟩ = some (.int .i64 p.base.y) := hBp_2 5 _ rfl
  have xp6 : w2.cell? ⟨w.heap.size, 6, none⟩ = some (.int .i64 p.base.k) := hBp_2 6 _ rfl
  have xp7 : w2.cell? ⟨w.heap.size, 7, none⟩ = some (.int .i64 p.made.pc) := hBp_2 7 _ rfl
  have xp8 : w2.cell? ⟨w.heap.size, 8, none⟩ = some (.int .i64 p.made.len) := hBp_2 8 _ rfl
  have xp9 : w2.cell? ⟨w.heap.size, 9, none⟩ = some ((.slice Ap2 p.made.ops.length cp2)) := hBp_2 9 _ rfl
  have xp10 : w2.cell? ⟨w.heap.size, 10, none⟩ = some (.int .i64 p.made.fin) := hBp_2 10 _ rfl
  have xp11 : w2.cell? ⟨w.heap.size, 11, none⟩ = some (.int .i64 p.made.x) := hBp_2 11 _ rfl
  have xp12 : w2.cell? ⟨w.heap.size, 12, none⟩ = some (.int .i64 p.made.y) := hBp_2 12 _ rfl
  have xp13 : w2.cell? ⟨w.heap.size, 13, none⟩ = some (.int .i64 p.made.k) := hBp_2 13 _ rfl
  have hS : ∀ w', Ext w2 w' → ∀ bb oo, bb < w2.heap.size → w'.cell? ⟨bb, oo, none⟩ = w2.cell? ⟨bb, oo, none⟩ := fun w' hx bb oo hb => hx.cell hb
  refine wp_region_plan (fun w' => Ext w2 w') 3 (.float 0 (.float 2 (.chain 1 (.tail 3)))) (by kernel_rfl) (by kernel_rfl) (Ext.refl _).drew ?_
  (refine Plan.float_step (v := ?_) rfl (by rfl) (fun _ _ _ h => h) (fun w' hSw => ?_) ?_; rotate_left; · (go_simp; try with_reducible rfl)); (try simp only [Act.put, List.setIfInBounds_toArray, List.set_cons_zero, List.set_cons_succ])
  (refine Plan.float_step (v := ?_) rfl (by rfl) (fun _ _ _ h => h) (fun w' hSw => ?_) ?_; rotate_left; · (go_simp; try with_reducible rfl)); (try simp only [Act.put, List.setIfInBounds_toArray, List.set_cons_zero, List.set_cons_succ])
  refine Plan.chain_step rfl (fun K hK => ?_)
  go_simp
  refine (to_ListCerPair l _ _ (hl.ext (Ext.trans he2 (by (repeat' (first | (with_reducible exact Ext.refl _) | (with_reducible apply Ext.alloc) | (with_reducible apply Ext.drewN) | (with_reducible apply Ext.drew) | (with_reducible refine Ext.setCell ?_ ?_ _))); all_goals (first | (simp; done) | (simp; omega) | omega)))) nl).mono ?_
  rintro e w3 ⟨r_pl1, F_pl1, rfl, ho_pl1, hf_pl, hy⟩
  refine hK.out _ _ (Ext.trans (by (repeat' (first | (with_reducible exact Ext.refl _) | (with_reducible apply Ext.alloc) | (with_reducible apply Ext.drewN) | (with_reducible apply Ext.drew) | (with_reducible refine Ext.setCell ?_ ?_ _))); all_goals (first | (simp; done) | (simp; omega) | omega)) hy) ?_
  clear hK
  (try simp only [Act.put, List.setIfInBounds_toArray, List.set_cons_zero, List.set_cons_succ])
  have hx3 : Ext w2 w3 := Ext.trans (by (repeat' (first | (with_reducible exact Ext.refl _) | (with_reducible apply Ext.alloc) | (with_reducible apply Ext.drewN) | (with_reducible apply Ext.drew) | (with_reducible refine Ext.setCell ?_ ?_ _))); all_goals (first | (simp; done) | (simp; omega) | omega)) hy
  have hs3 := hx3.size
  have he3 : Ext w w3 := he2.trans hx3
  have hBp_3 : Bx w3 (w.heap.size) [.int .i64 p.base.pc, .int .i64 p.base.len, (.slice Ap1 p.base.ops.length cp1), .int .i64 p.base.fin, .int .i64 p.base.x, .int .i64 p.base.y, .int .i64 p.base.k, .int .i64 p.made.pc, .int .i64 p.made.len, (.slice Ap2 p.made.ops.length cp2), .int .i64 p.made.fin, .int .i64 p.made.x, .int .i64 p.made.y, .int .i64 p.made.k] := hx3.bx hBp_2 (by omega)
  have hFp_3 : ∀ oo, w3.frozen? ⟨w.heap.size, oo, none⟩ = false := fun oo => (hx3.frozen (by omega)).trans (hFp_2 oo)
  clear hBp_2 hFp_2
  clear hy
  obtain ⟨A_pl1, c_pl1, rfl, -, -⟩ := ho_pl1.sl.form
  have fr_pl : Fr w2 w3 (F_pl1) := hf_pl.mk1 (by first | exact Nat.le_refl _ | (simp; done)) (Nat.le_refl _)
  clear hf_pl
  refine Plan.tail_step ?_
  simp only [List.drop_succ_cons, List.drop_zero]
  clear hS
  clear xp0 xp1 xp2 xp3 xp4 xp5 xp6 xp7 xp8 xp9 xp10 xp11 xp12 xp13 yp
  go_wp2_with fail
  refine (to_CerPair p _ _ _ (hp1.ext (Ext.trans he3 (by (repeat' (first | (with_reducible exact Ext.refl _) | (with_reducible apply Ext.alloc) | (with_reducible apply Ext.drewN) | (with_reducible apply Ext.drew) | (with_reducible refine Ext.setCell ?_ ?_ _))); all_goals (first | (simp; done) | (simp; omega) | omega)))) (hp2.ext (Ext.trans he3 (by (repeat' (first | (with_reducible exact Ext.refl _) | (with_reducible apply Ext.alloc) | (with_reducible apply Ext.drewN) | (with_reducible apply Ext.drew) | (with_reducible refine Ext.setCell ?_ ?_ _))); all_goals (first | (simp; done) | (simp; omega) | omega)))) np).mono ?_
  rintro e w4 ⟨r_pp1, r_pp2, F_pp1, F_pp2, rfl, ho_pp1, ho_pp2, hf_pp, hy⟩
  have hx4 : Ext w3 w4 := Ext.trans (by (repeat' (first | (with_reducible exact Ext.refl _) | (with_reducible apply Ext.alloc) | (with_reducible apply Ext.drewN) | (with_reducible apply Ext.drew) | (with_reducible refine Ext.setCell ?_ ?_ _))); all_goals (first | (simp; done) | (simp; omega) | omega)) hy
  have hs4 := hx4.size
  have he4 : Ext w w4 := he3.trans hx4
  have hBp_4 : Bx w4 (w.heap.size) [.int .i64 p.base.pc, .int .i64 p.base.len, (.slice Ap1 p.base.ops.length cp1), .int .i64 p.base.fin, .int .i64 p.base.x, .int .i64 p.base.y, .int .i64 p.base.k, .int .i64 p.made.pc, .int .i64 p.made.len, (.slice Ap2 p.made.ops.length cp2), .int .i64 p.made.fin, .int .i64 p.made.x, .int .i64 p.made.y, .int .i64 p.made.k] := hx4.bx hBp_3 (by omega)
  have hFp_4 : ∀ oo, w4.frozen? ⟨w.heap.size, oo, none⟩ = false := fun oo => (hx4.frozen (by omega)).trans (hFp_3 oo)
  clear hBp_3 hFp_3
  clear hy
  obtain ⟨A_pp1, c_pp1, rfl, -, -⟩ := ho_pp1.sl.form
  obtain ⟨A_pp2, c_pp2, rfl, -, -⟩ := ho_pp2.sl.form
  have fr_pp : Fr w3 w4 (F_pp1 ++ F_pp2) := hf_pp.mk1 (by first | exact Nat.le_refl _ | (simp; done)) (Nat.le_refl _)
  clear hf_pp
  go_wp2_with fail
  refine (specCerPut_any l p _ _ _ _ ((OwnSl.up ho_pl1 (fr_pl.mk1 (Nat.le_refl _) (by omega)) hx4).old (fr_pl.mk1 (Nat.le_refl _) (by omega))) ((OwnSl.up ho_pp1 (fr_pp.inl.mk1 (Nat.le_refl _) (by omega)) (Ext.refl _)).old (fr_pp.inl.mk1 (Nat.le_refl _) (by omega))) ((OwnSl.up ho_pp2 (fr_pp.inr.mk1 (Nat.le_refl _) (by omega)) (Ext.refl _)).old (fr_pp.inr.mk1 (Nat.le_refl _) (by omega))) hkp (by omega)).mono ?_
  rintro e w5 ⟨r_w1, F_w1, rfl, ho_w1, hf_w, hy⟩
  have hx5 : Ext w4 w5 := Ext.trans (by (repeat' (first | (with_reducible exact Ext.refl _) | (with_reducible apply Ext.alloc) | (with_reducible apply Ext.drewN) | (with_reducible apply Ext.drew) | (with_reducible refine Ext.setCell ?_ ?_ _))); all_goals (first | (simp; done) | (simp; omega) | omega)) hy
  have hs5 := hx5.size
  have he5 : Ext w w5 := he4.trans hx5
  have hBp_5 : Bx w5 (w.heap.size) [.int .i64 p.base.pc, .int .i64 p.base.len, (.slice Ap1 p.base.ops.length cp1), .int .i64 p.base.fin, .int .i64 p.base.x, .int .i64 p.base.y, .int .i64 p.base.k, .int .i64 p.made.pc, .int .i64 p.made.len, (.slice Ap2 p.made.ops.length cp2), .int .i64 p.made.fin, .int .i64 p.made.x, .int .i64 p.made.y, .int .i64 p.made.k] := hx5.bx hBp_4 (by omega)
  have hFp_5 : ∀ oo, w5.frozen? ⟨w.heap.size, oo, none⟩ = false := fun oo => (hx5.frozen (by omega)).trans (hFp_4 oo)
  clear hBp_4 hFp_4
  clear hy
  obtain ⟨A_w1, c_w1, rfl, -, -⟩ := ho_w1.sl.form
  have fr_w : Fr w4 w5 (F_w1) := hf_w.mk1 (by first | exact Nat.le_refl _ | (simp; done)) (Nat.le_refl _)
  clear hf_w
  go_wp2_with fail
  refine (to_ListCerPair l _ _ (hl.ext (Ext.trans he5 (by (repeat' (first | (with_reducible exact Ext.refl _) | (with_reducible apply Ext.alloc) | (with_reducible apply Ext.drewN) | (with_reducible apply Ext.drew) | (with_reducible refine Ext.setCell ?_ ?_ _))); all_goals (first | (simp; done) | (simp; omega) | omega)))) nl).mono ?_
  rintro e w6 ⟨r_xl1, F_xl1, rfl, ho_xl1, hf_xl, hy⟩
  have hx6 : Ext w5 w6 := Ext.trans (by (repeat' (first | (with_reducible exact Ext.refl _) | (with_reducible apply Ext.alloc) | (with_reducible apply Ext.drewN) | (with_reducible apply Ext.drew) | (with_reducible refine Ext.setCell ?_ ?_ _))); all_goals (first | (simp; done) | (simp; omega) | omega)) hy
  have hs6 := hx6.size
  have he6 : Ext w w6 := he5.trans hx6
  have hBp_6 : Bx w6 (w.heap.size) [.int .i64 p.base.pc, .int .i64 p.base.len, (.slice Ap1 p.base.ops.length cp1), .int .i64 p.base.fin, .int .i64 p.base.x, .int .i64 p.base.y, .int .i64 p.base.k, .int .i64 p.made.pc, .int .i64 p.made.len, (.slice Ap2 p.made.ops.length cp2), .int .i64 p.made.fin, .int .i64 p.made.x, .int .i64 p.made.y, .int .i64 p.made.k] := hx6.bx hBp_5 (by omega)
  have hFp_6 : ∀ oo, w6.frozen? ⟨w.heap.size, oo, none⟩ = false := fun oo => (hx6.frozen (by omega)).trans (hFp_5 oo)
  clear hBp_5 hFp_5
  clear hy
  obtain ⟨A_xl1, c_xl1, rfl, -, -⟩ := ho_xl1.sl.form
  have fr_xl : Fr w5 w6 (F_xl1) := hf_xl.mk1 (by first | exact Nat.le_refl _ | (simp; done)) (Nat.le_refl _)
  clear hf_xl
  have yp : w.heap.size < w6.heap.size := by omega
  have xp0 : w6.cell? ⟨w.heap.size, 0, none⟩ = some (.int .i64 p.base.pc) := hBp_6 0 _ rfl
  have xp1 : w6.cell? ⟨w.heap.size, 1, none⟩ = some (.int .i64 p.base.len) := hBp_6 1 _ rfl
  have xp2 : w6.cell? ⟨w.heap.size, 2, none⟩ = some ((.slice Ap1 p.base.ops.length cp1)) := hBp_6 2 _ rfl
  have xp3 : w6.cell? ⟨w.heap.size, 3, none⟩ = some (.int .i64 p.base.fin) := hBp_6 3 _ rfl
  have xp4 : w6.cell? ⟨w.heap.size, 4, none⟩ = some (.int .i64 p.base.x) := hBp_6 4 _ rfl
  have xp5 : w6.cell? ⟨w.heap.size, 5, none⟩ = some (.int .i64 p.base.y) := hBp_6 5 _ rfl
  have xp6 : w6.cell? ⟨w.heap.size, 6, none⟩ = some (.int .i64 p.base.k) := hBp_6 6 _ rfl
  have xp7 : w6.cell? ⟨w.heap.size, 7, none⟩ = some (.int .i64 p.made.pc) := hBp_6 7 _ rfl
  have xp8 : w6.cell? ⟨w.heap.size, 8, none⟩ = some (.int .i64 p.made.len) := hBp_6 8 _ rfl
  have xp9 : w6.cell? ⟨w.heap.size, 9, none⟩ = some ((.slice Ap2 p.made.ops.length cp2)) := hBp_6 9 _ rfl
  have xp10 : w6.cell? ⟨w.heap.size, 10, none⟩ = some (.int .i64 p.made.fin) := hBp_6 10 _ rfl
  have xp11 : w6.cell? ⟨w.heap.size, 11, none⟩ = some (.int .i64 p.made.x) := hBp_6 11 _ rfl
  have xp12 : w6.cell? ⟨w.heap.size, 12, none⟩ = some (.int .i64 p.made.y) := hBp_6 12 _ rfl
  have xp13 : w6.cell? ⟨w.heap.size, 13, none⟩ = some (.int .i64 p.made.k) := hBp_6 13 _ rfl
  go_wp2_with fail
  clear xp0 xp1 xp2 xp3 xp4 xp5 xp6 xp7 xp8 xp9 xp10 xp11 xp12 xp13 yp
  refine (to_CerPair p _ _ _ (hp1.ext (Ext.trans he6 (by (repeat' (first | (with_reducible exact Ext.refl _) | (with_reducible apply Ext.alloc) | (with_reducible apply Ext.drewN) | (with_reducible apply Ext.drew) | (with_reducible refine Ext.setCell ?_ ?_ _))); all_goals (first | (simp; done) | (simp; omega) | omega)))) (hp2.ext (Ext.trans he6 (by (repeat' (first | (with_reducible exact Ext.refl _) | (with_reducible apply Ext.alloc) | (with_reducible apply Ext.drewN) | (with_reducible apply Ext.drew) | (with_reducible refine Ext.setCell ?_ ?_ _))); all_goals (first | (simp; done) | (simp; omega) | omega)))) np).mono ?_
  rintro e w7 ⟨r_xp1, r_xp2, F_xp1, F_xp2, rfl, ho_xp1, ho_xp2, hf_xp, hy⟩
  have hx7 : Ext w6 w7 := Ext.trans (by (repeat' (first | (with_reducible exact Ext.refl _) | (with_reducible apply Ext.alloc) | (with_reducible apply Ext.drewN) | (with_reducible apply Ext.drew) | (with_reducible refine Ext.setCell ?_ ?_ _))); all_goals (first | (simp; done) | (simp; omega) | omega)) hy
  have hs7 := hx7.size
  have he7 : Ext w w7 := he6.trans hx7
  have hBp_7 : Bx w7 (w.heap.size) [.int .i64 p.base.pc, .int .i64 p.base.len, (.slice Ap1 p.base.ops.length cp1), .int .i64 p.base.fin, .int .i64 p.base.x, .int .i64 p.base.y, .int .i64 p.base.k, .int .i64 p.made.pc, .int .i64 p.made.len, (.slice Ap2 p.made.ops.length cp2), .int .i64 p.made.fin, .int .i64 p.made.x, .int .i64 p.made.y, .int .i64 p.made.k] := hx7.bx hBp_6 (by omega)
  have hFp_7 : ∀ oo, w7.frozen? ⟨w.heap.size, oo, none⟩ = false := fun oo => (hx7.frozen (by omega)).trans (hFp_6 oo)
  clear hBp_6 hFp_6
  clear hy
  obtain ⟨A_xp1, c_xp1, rfl, -, -⟩ := ho_xp1.sl.form
  obtain ⟨A_xp2, c_xp2, rfl, -, -⟩ := ho_xp2.sl.form
  have fr_xp : Fr w6 w7 (F_xp1 ++ F_xp2) := hf_xp.mk1 (by first | exact Nat.le_refl _ | (simp; done)) (Nat.le_refl _)
  clear hf_xp
  go_wp2_with fail
  have hx8 : Ext w7 (w7.alloc (Obj.cells #[.int .i64 p.base.pc, .int .i64 p.base.len, (.slice A_xp1 (p.base.ops).length c_xp1), .int .i64 p.base.fin, .int .i64 p.base.x, .int .i64 p.base.y, .int .i64 p.base.k, .int .i64 p.made.pc, .int .i64 p.made.len, (.slice A_xp2 (p.made.ops).length c_xp2), .int .i64 p.made.fin, .int .i64 p.made.x, .int .i64 p.made.y, .int .i64 p.made.k] 54)) := (by (repeat' (first | (with_reducible exact Ext.refl _) | (with_reducible apply Ext.alloc) | (with_reducible apply Ext.drewN) | (with_reducible apply Ext.drew) | (with_reducible refine Ext.setCell ?_ ?_ _))); all_goals (first | (simp; done) | (simp; omega) | omega))
  have hs8 : w7.heap.size + 1 ≤ ((w7.alloc (Obj.cells #[.int .i64 p.base.pc, .int .i64 p.base.len, (.slice A_xp1 (p.base.ops).length c_xp1), .int .i64 p.base.fin, .int .i64 p.base.x, .int .i64 p.base.y, .int .i64 p.base.k, .int .i64 p.made.pc, .int .i64 p.made.len, (.slice A_xp2 (p.made.ops).length c_xp2), .int .i64 p.made.fin, .int .i64 p.made.x, .int .i64 p.made.y, .int .i64 p.made.k] 54))).heap.size := by simp
  have he8 : Ext w (w7.alloc (Obj.cells #[.int .i64 p.base.pc, .int .i64 p.base.len, (.slice A_xp1 (p.base.ops).length c_xp1), .int .i64 p.base.fin, .int .i64 p.base.x, .int .i64 p.base.y, .int .i64 p.base.k, .int .i64 p.made.pc, .int .i64 p.made.len, (.slice A_xp2 (p.made.ops).length c_xp2), .int .i64 p.made.fin, .int .i64 p.made.x, .int .i64 p.made.y, .int .i64 p.made.k] 54)) := he7.trans hx8
  have hBp_8 : Bx (w7.alloc (Obj.cells #[.int .i64 p.base.pc, .int .i64 p.base.len, (.slice A_xp1 (p.base.ops).length c_xp1), .int .i64 p.base.fin, .int .i64 p.base.x, .int .i64 p.base.y, .int .i64 p.base.k, .int .i64 p.made.pc, .int .i64 p.made.len, (.slice A_xp2 (p.made.ops).length c_xp2), .int .i64 p.made.fin, .int .i64 p.made.x, .int .i64 p.made.y, .int .i64 p.made.k] 54)) (w.heap.size) [.int .i64 p.base.pc, .int .i64 p.base.len, (.slice Ap1 p.base.ops.length cp1), .int .i64 p.base.fin, .int .i64 p.base.x, .int .i64 p.base.y, .int .i64 p.base.k, .int .i64 p.made.pc, .int .i64 p.made.len, (.slice Ap2 p.made.ops.length cp2), .int .i64 p.made.fin, .int .i64 p.made.x, .int .i64 p.made.y, .int .i64 p.made.k] := hx8.bx hBp_7 (by omega)
  have hFp_8 : ∀ oo, ((w7.alloc (Obj.cells #[.int .i64 p.base.pc, .int .i64 p.base.len, (.slice A_xp1 (p.base.ops).length c_xp1), .int .i64 p.base.fin, .int .i64 p.base.x, .int .i64 p.base.y, .int .i64 p.base.k, .int .i64 p.made.pc, .int .i64 p.made.len, (.slice A_xp2 (p.made.ops).length c_xp2), .int .i64 p.made.fin, .int .i64 p.made.x, .int .i64 p.made.y, .int .i64 p.made.k] 54))).frozen? ⟨w.heap.size, oo, none⟩ = false := fun oo => (hx8.frozen (by omega)).trans (hFp_7 oo)
  have hBxp_8 : Bx (w7.alloc (Obj.cells #[.int .i64 p.base.pc, .int .i64 p.base.len, (.slice A_xp1 (p.base.ops).length c_xp1), .int .i64 p.base.fin, .int .i64 p.base.x, .int .i64 p.base.y, .int .i64 p.base.k, .int .i64 p.made.pc, .int .i64 p.made.len, (.slice A_xp2 (p.made.ops).length c_xp2), .int .i64 p.made.fin, .int .i64 p.made.x, .int .i64 p.made.y, .int .i64 p.made.k] 54)) (w7.heap.size) [.int .i64 p.base.pc, .int .i64 p.base.len, (.slice A_xp1 (p.base.ops).length c_xp1), .int .i64 p.base.fin, .int .i64 p.base.x, .int .i64 p.base.y, .int .i64 p.base.k, .int .i64 p.made.pc, .int .i64 p.made.len, (.slice A_xp2 (p.made.ops).length c_xp2), .int .i64 p.made.fin, .int .i64 p.made.x, .int .i64 p.made.y, .int .i64 p.made.k] := (by have := (Bx.new w7 #[.int .i64 p.base.pc, .int .i64 p.base.len, (.slice A_xp1 (p.base.ops).length c_xp1), .int .i64 p.base.fin, .int .i64 p.base.x, .int .i64 p.base.y, .int .i64 p.base.k, .int .i64 p.made.pc, .int .i64 p.made.len, (.slice A_xp2 (p.made.ops).length c_xp2), .int .i64 p.made.fin, .int .i64 p.made.x, .int .i64 p.made.y, .int .i64 p.made.k] 54); simpa using this)
  have hFxp_8 : ∀ oo, ((w7.alloc (Obj.cells #[.int .i64 p.base.pc, .int .i64 p.base.len, (.slice A_xp1 (p.base.ops).length c_xp1), .int .i64 p.base.fin, .int .i64 p.base.x, .int .i64 p.base.y, .int .i64 p.base.k, .int .i64 p.made.pc, .int .i64 p.made.len, (.slice A_xp2 (p.made.ops).length c_xp2), .int .i64 p.made.fin, .int .i64 p.made.x, .int .i64 p.made.y, .int .i64 p.made.k] 54))).frozen? ⟨w7.heap.size, oo, none⟩ = false := fun oo => by simp
  generalize (w7.alloc (Obj.cells #[.int .i64 p.base.pc, .int .i64 p.base.len, (.slice A_xp1 (p.base.ops).length c_xp1), .int .i64 p.base.fin, .int .i64 p.base.x, .int .i64 p.base.y, .int .i64 p.base.k, .int .i64 p.made.pc, .int .i64 p.made.len, (.slice A_xp2 (p.made.ops).length c_xp2), .int .i64 p.made.fin, .int .i64 p.made.x, .int .i64 p.made.y, .int .i64 p.made.k] 54)) = w8 at *
  clear hBp_7 hFp_7
  refine (implCerPut_any l p _ _ _ _ ((OwnSl.up ho_xl1 (fr_xl.mk1 (Nat.le_refl _) (by omega)) (Ext.trans hx7 hx8)).old (fr_xl.mk1 (Nat.le_refl _) (by omega))) ((OwnSl.up ho_xp1 (fr_xp.inl.mk1 (Nat.le_refl _) (by omega)) hx8).old (fr_xp.inl.mk1 (Nat.le_refl _) (by omega))) ((OwnSl.up ho_xp2 (fr_xp.inr.mk1 (Nat.le_refl _) (by omega)) hx8).old (fr_xp.inr.mk1 (Nat.le_refl _) (by omega))) hkp (by omega)).mono ?_
  rintro e w9 ⟨r_g1, F_g1, rfl, ho_g1, hf_g, hy⟩
  have hx9 : Ext w8 w9 := Ext.trans (by (repeat' (first | (with_reducible exact Ext.refl _) | (with_reducible apply Ext.alloc) | (with_reducible apply Ext.drewN) | (with_reducible apply Ext.drew) | (with_reducible refine Ext.setCell ?_ ?_ _))); all_goals (first | (simp; done) | (simp; omega) | omega)) hy
  have hs9 := hx9.size
  have he9 : Ext w w9 := he8.trans hx9
  have hBp_9 : Bx w9 (w.heap.size) [.int .i64 p.base.pc, .int .i64 p.base.len, (.slice Ap1 p.base.ops.length cp1), .int .i64 p.base.fin, .int .i64 p.base.x, .int .i64 p.base.y, .int .i64 p.base.k, .int .i64 p.made.pc, .int .i64 p.made.len, (.slice Ap2 p.made.ops.length cp2), .int .i64 p.made.fin, .int .i64 p.made.x, .int .i64 p.made.y, .int .i64 p.made.k] := hx9.bx hBp_8 (by omega)
  have hFp_9 : ∀ oo, w9.frozen? ⟨w.heap.size, oo, none⟩ = false := fun oo => (hx9.frozen (by omega)).trans (hFp_8 oo)
  have hBxp_9 : Bx w9 (w7.heap.size) [.int .i64 p.base.pc, .int .i64 p.base.len, (.slice A_xp1 (p.base.ops).length c_xp1), .int .i64 p.base.fin, .int .i64 p.base.x, .int .i64 p.base.y, .int .i64 p.base.k, .int .i64 p.made.pc, .int .i64 p.made.len, (.slice A_xp2 (p.made.ops).length c_xp2), .int .i64 p.made.fin, .int .i64 p.made.x, .int .i64 p.made.y, .int .i64 p.made.k] := hx9.bx hBxp_8 (by omega)
  have hFxp_9 : ∀ oo, w9.frozen? ⟨w7.heap.size, oo, none⟩ = false := fun oo => (hx9.frozen (by omega)).trans (hFxp_8 oo)
  clear hBp_8 hFp_8 hBxp_8 hFxp_8
  clear hy
  obtain ⟨A_g1, c_g1, rfl, -, -⟩ := ho_g1.sl.form
  have fr_g : Fr w8 w9 (F_g1) := hf_g.mk1 (by first | exact Nat.le_refl _ | (simp; done)) (Nat.le_refl _)
  clear hf_g
  go_wp2_with fail
  refine (eq_ListCerPair (cerPut l p) (cerPut l p) _ _  _ ((OwnSl.up ho_g1 (fr_g.mk1 (Nat.le_refl _) (by omega)) (Ext.refl _)).old (fr_g.mk1 (Nat.le_refl _) (by omega))) ((OwnSl.up ho_w1 (fr_w.mk1 (Nat.le_refl _) (by omega)) (Ext.trans (Ext.trans (Ext.trans hx6 hx7) hx8) hx9)).old (fr_w.mk1 (Nat.le_refl _) (by omega)))).mono ?_
  rintro e w10 ⟨rfl, hy⟩
  have hx10 : Ext w9 w10 := Ext.trans (by (repeat' (first | (with_reducible exact Ext.refl _) | (with_reducible apply Ext.alloc) | (with_reducible apply Ext.drewN) | (with_reducible apply Ext.drew) | (with_reducible refine Ext.setCell ?_ ?_ _))); all_goals (first | (simp; done) | (simp; omega) | omega)) hy
  have hs10 := hx10.size
  have he10 : Ext w w10 := he9.trans hx10
  have hBp_10 : Bx w10 (w.heap.size) [.int .i64 p.base.pc, .int .i64 p.base.len, (.slice Ap1 p.base.ops.length cp1), .int .i64 p.base.fin, .int .i64 p.base.x, .int .i64 p.base.y, .int .i64 p.base.k, .int .i64 p.made.pc, .int .i64 p.made.len, (.slice Ap2 p.made.ops.length cp2), .int .i64 p.made.fin, .int .i64 p.made.x, .int .i64 p.made.y, .int .i64 p.made.k] := hx10.bx hBp_9 (by omega)
  have hFp_10 : ∀ oo, w10.frozen? ⟨w.heap.size, oo, none⟩ = false := fun oo => (hx10.frozen (by omega)).trans (hFp_9 oo)
  have hBxp_10 : Bx w10 (w7.heap.size) [.int .i64 p.base.pc, .int .i64 p.base.len, (.slice A_xp1 (p.base.ops).length c_xp1), .int .i64 p.base.fin, .int .i64 p.base.x, .int .i64 p.base.y, .int .i64 p.base.k, .int .i64 p.made.pc, .int .i64 p.made.len, (.slice A_xp2 (p.made.ops).length c_xp2), .int .i64 p.made.fin, .int .i64 p.made.x, .int .i64 p.made.y, .int .i64 p.made.k] := hx10.bx hBxp_9 (by omega)
  have hFxp_10 : ∀ oo, w10.frozen? ⟨w7.heap.size, oo, none⟩ = false := fun oo => (hx10.frozen (by omega)).trans (hFxp_9 oo)
  clear hBp_9 hFp_9 hBxp_9 hFxp_9
  clear hy
  go_wp2_with fail
  refine (to_ListCerPair l _ _ (hl.ext (Ext.trans he10 (by (repeat' (first | (with_reducible exact Ext.refl _) | (with_reducible apply Ext.alloc) | (with_reducible apply Ext.drewN) | (with_reducible apply Ext.drew) | (with_reducible refine Ext.setCell ?_ ?_ _))); all_goals (first | (simp; done) | (simp; omega) | omega)))) nl).mono ?_
  rintro e w11 ⟨r_yl1, F_yl1, rfl, ho_yl1, hf_yl, hy⟩
  have hx11 : Ext w10 w11 := Ext.trans (by (repeat' (first | (with_reducible exact Ext.refl _) | (with_reducible apply Ext.alloc) | (with_reducible apply Ext.drewN) | (with_reducible apply Ext.drew) | (with_reducible refine Ext.setCell ?_ ?_ _))); all_goals (first | (simp; done) | (simp; omega) | omega)) hy
  have hs11 := hx11.size
  have he11 : Ext w w11 := he10.trans hx11
  have hBp_11 : Bx w11 (w.heap.size) [.int .i64 p.base.pc, .int .i64 p.base.len, (.slice Ap1 p.base.ops.length cp1), .int .i64 p.base.fin, .int .i64 p.base.x, .int .i64 p.base.y, .int .i64 p.base.k, .int .i64 p.made.pc, .int .i64 p.made.len, (.slice Ap2 p.made.ops.length cp2), .int .i64 p.made.fin, .int .i64 p.made.x, .int .i64 p.made.y, .int .i64 p.made.k] := hx11.bx hBp_10 (by omega)
  have hFp_11 : ∀ oo, w11.frozen? ⟨w.heap.size, oo, none⟩ = false := fun oo => (hx11.frozen (by omega)).trans (hFp_10 oo)
  have hBxp_11 : Bx w11 (w7.heap.size) [.int .i64 p.base.pc, .int .i64 p.base.len, (.slice A_xp1 (p.base.ops).length c_xp1), .int .i64 p.base.fin, .int .i64 p.base.x, .int .i64 p.base.y, .int .i64 p.base.k, .int .i64 p.made.pc, .int .i64 p.made.len, (.slice A_xp2 (p.made.ops).length c_xp2), .int .i64 p.made.fin, .int .i64 p.made.x, .int .i64 p.made.y, .int .i64 p.made.k] := hx11.bx hBxp_10 (by omega)
  have hFxp_11 : ∀ oo, w11.frozen? ⟨w7.heap.size, oo, none⟩ = false := fun oo => (hx11.frozen (by omega)).trans (hFxp_10 oo)
  clear hBp_10 hFp_10 hBxp_10 hFxp_10
  clear hy
  obtain ⟨A_yl1, c_yl1, rfl, -, -⟩ := ho_yl1.sl.form
  have fr_yl : Fr w10 w11 (F_yl1) := hf_yl.mk1 (by first | exact Nat.le_refl _ | (simp; done)) (Nat.le_refl _)
  clear hf_yl
  go_wp2_with fail
  refine (eq_ListCerPair l l _ _  _ ((OwnSl.up ho_xl1 (fr_xl.mk1 (Nat.le_refl _) (by omega)) (Ext.trans (Ext.trans (Ext.trans (Ext.trans hx7 hx8) hx9) hx10) hx11)).old (fr_xl.mk1 (Nat.le_refl _) (by omega))) ((OwnSl.up ho_yl1 (fr_yl.mk1 (Nat.le_refl _) (by omega)) (Ext.refl _)).old (fr_yl.mk1 (Nat.le_refl _) (by omega)))).mono ?_
  rintro e w12 ⟨rfl, hy⟩
  have hx12 : Ext w11 w12 := Ext.trans (by (repeat' (first | (with_reducible exact Ext.refl _) | (with_reducible apply Ext.alloc) | (with_reducible apply Ext.drewN) | (with_reducible apply Ext.drew) | (with_reducible refine Ext.setCell ?_ ?_ _))); all_goals (first | (simp; done) | (simp; omega) | omega)) hy
  have hs12 := hx12.size
  have he12 : Ext w w12 := he11.trans hx12
  have hBp_12 : Bx w12 (w.heap.size) [.int .i64 p.base.pc, .int .i64 p.base.len, (.slice Ap1 p.base.ops.length cp1), .int .i64 p.base.fin, .int .i64 p.base.x, .int .i64 p.base.y, .int .i64 p.base.k, .int .i64 p.made.pc, .int .i64 p.made.len, (.slice Ap2 p.made.ops.length cp2), .int .i64 p.made.fin, .int .i64 p.made.x, .int .i64 p.made.y, .int .i64 p.made.k] := hx12.bx hBp_11 (by omega)
  have hFp_12 : ∀ oo, w12.frozen? ⟨w.heap.size, oo, none⟩ = false := fun oo => (hx12.frozen (by omega)).trans (hFp_11 oo)
  have hBxp_12 : Bx w12 (w7.heap.size) [.int .i64 p.base.pc, .int .i64 p.base.len, (.slice A_xp1 (p.base.ops).length c_xp1), .int .i64 p.base.fin, .int .i64 p.base.x, .int .i64 p.base.y, .int .i64 p.base.k, .int .i64 p.made.pc, .int .i64 p.made.len, (.slice A_xp2 (p.made.ops).length c_xp2), .int .i64 p.made.fin, .int .i64 p.made.x, .int .i64 p.made.y, .int .i64 p.made.k] := hx12.bx hBxp_11 (by omega)
  have hFxp_12 : ∀ oo, w12.frozen? ⟨w7.heap.size, oo, none⟩ = false := fun oo => (hx12.frozen (by omega)).trans (hFxp_11 oo)
  clear hBp_11 hFp_11 hBxp_11 hFxp_11
  clear hy
  clear ho_yl1 fr_yl
  go_wp2_with fail
  have yxp : w7.heap.size < w12.heap.size := by omega
  have xxp0 : w12.cell? ⟨w7.heap.size, 0, none⟩ = some (.int .i64 p.base.pc) := hBxp_12 0 _ rfl
  have xxp1 : w12.cell? ⟨w7.heap.size, 1, none⟩ = some (.int .i64 p.base.len) := hBxp_12 1 _ rfl
  have xxp2 : w12.cell? ⟨w7.heap.size, 2, none⟩ = some ((.slice A_xp1 (p.base.ops).length c_xp1)) := hBxp_12 2 _ rfl
  have xxp3 : w12.cell? ⟨w7.heap.size, 3, none⟩ = some (.int .i64 p.base.fin) := hBxp_12 3 _ rfl
  have xxp4 : w12.cell? ⟨w7.heap.size, 4, none⟩ = some (.int .i64 p.base.x) := hBxp_12 4 _ rfl
  have xxp5 : w12.cell? ⟨w7.heap.size, 5, none⟩ = some (.int .i64 p.base.y) := hBxp_12 5 _ rfl
  have xxp6 : w12.cell? ⟨w7.heap.size, 6, none⟩ = some (.int .i64 p.base.k) := hBxp_12 6 _ rfl
  have xxp7 : w12.cell? ⟨w7.heap.size, 7, none⟩ = some (.int .i64 p.made.pc) := hBxp_12 7 _ rfl
  have xxp8 : w12.cell? ⟨w7.heap.size, 8, none⟩ = some (.int .i64 p.made.len) := hBxp_12 8 _ rfl
  have xxp9 : w12.cell? ⟨w7.heap.size, 9, none⟩ = some ((.slice A_xp2 (p.made.ops).length c_xp2)) := hBxp_12 9 _ rfl
  have xxp10 : w12.cell? ⟨w7.heap.size, 10, none⟩ = some (.int .i64 p.made.fin) := hBxp_12 10 _ rfl
  have xxp11 : w12.cell? ⟨w7.heap.size, 11, none⟩ = some (.int .i64 p.made.x) := hBxp_12 11 _ rfl
  have xxp12 : w12.cell? ⟨w7.heap.size, 12, none⟩ = some (.int .i64 p.made.y) := hBxp_12 12 _ rfl
  have xxp13 : w12.cell? ⟨w7.heap.size, 13, none⟩ = some (.int .i64 p.made.k) := hBxp_12 13 _ rfl
  have yp : w.heap.size < w12.heap.size := by omega
  have xp0 : w12.cell? ⟨w.heap.size, 0, none⟩ = some (.int .i64 p.base.pc) := hBp_12 0 _ rfl
  have xp1 : w12.cell? ⟨w.heap.size, 1, none⟩ = some (.int .i64 p.base.len) := hBp_12 1 _ rfl
  have xp2 : w12.cell? ⟨w.heap.size, 2, none⟩ = some ((.slice Ap1 p.base.ops.length cp1)) := hBp_12 2 _ rfl
  have xp3 : w12.cell? ⟨w.heap.size, 3, none⟩ = some (.int .i64 p.base.fin) := hBp_12 3 _ rfl
  have xp4 : w12.cell? ⟨w.heap.size, 4, none⟩ = some (.int .i64 p.base.x) := hBp_12 4 _ rfl
  have xp5 : w12.cell? ⟨w.heap.size, 5, none⟩ = some (.int .i64 p.base.y) := hBp_12 5 _ rfl
  have xp6 : w12.cell? ⟨w.heap.size, 6, none⟩ = some (.int .i64 p.base.k) := hBp_12 6 _ rfl
  have xp7 : w12.cell? ⟨w.heap.size, 7, none⟩ = some (.int .i64 p.made.pc) := hBp_12 7 _ rfl
  have xp8 : w12.cell? ⟨w.heap.size, 8, none⟩ = some (.int .i64 p.made.len) := hBp_12 8 _ rfl
  have xp9 : w12.cell? ⟨w.heap.size, 9, none⟩ = some ((.slice Ap2 p.made.ops.length cp2)) := hBp_12 9 _ rfl
  have xp10 : w12.cell? ⟨w.heap.size, 10, none⟩ = some (.int .i64 p.made.fin) := hBp_12 10 _ rfl
  have xp11 : w12.cell? ⟨w.heap.size, 11, none⟩ = some (.int .i64 p.made.x) := hBp_12 11 _ rfl
  have xp12 : w12.cell? ⟨w.heap.size, 12, none⟩ = some (.int .i64 p.made.y) := hBp_12 12 _ rfl
  have xp13 : w12.cell? ⟨w.heap.size, 13, none⟩ = some (.int .i64 p.made.k) := hBp_12 13 _ rfl
  have hS : ∀ w', Ext w12 w' → ∀ bb oo, bb < w12.heap.size → w'.cell? ⟨bb, oo, none⟩ = w12.cell? ⟨bb, oo, none⟩ := fun w' hx bb oo hb => hx.cell hb
  refine wp_region_plan (fun w' => Ext w12 w') 3 (.float 0 (.float 1 (.chain 2 (.tail 3)))) (by kernel_rfl) (by kernel_rfl) (Ext.refl _).drew ?_
  (refine Plan.float_step (v := ?_) rfl (by rfl) (fun _ _ _ h => h) (fun w' hSw => ?_) ?_; rotate_left; · (go_simp; try with_reducible rfl)); (try simp only [Act.put, List.setIfInBounds_toArray, List.set_cons_zero, List.set_cons_succ])
  (refine Plan.float_step (v := ?_) rfl (by rfl) (fun _ _ _ h => h) (fun w' hSw => ?_) ?_; rotate_left; · (go_simp; try with_reducible rfl)); (try simp only [Act.put, List.setIfInBounds_toArray, List.set_cons_zero, List.set_cons_succ])
  refine Plan.chain_step rfl (fun K hK => ?_)
  go_simp
  refine (to_CerPair p _ _ _ (hp1.ext (Ext.trans he12 (by (repeat' (first | (with_reducible exact Ext.refl _) | (with_reducible apply Ext.alloc) | (with_reducible apply Ext.drewN) | (with_reducible apply Ext.drew) | (with_reducible refine Ext.setCell ?_ ?_ _))); all_goals (first | (simp; done) | (simp; omega) | omega)))) (hp2.ext (Ext.trans he12 (by (repeat' (first | (with_reducible exact Ext.refl _) | (with_reducible apply Ext.alloc) | (with_reducible apply Ext.drewN) | (with_reducible apply Ext.drew) | (with_reducible refine Ext.setCell ?_ ?_ _))); all_goals (first | (simp; done) | (simp; omega) | omega)))) np).mono ?_
  rintro e w13 ⟨r_yp1, r_yp2, F_yp1, F_yp2, rfl, ho_yp1, ho_yp2, hf_yp, hy⟩
  refine hK.out _ _ (Ext.trans (by (repeat' (first | (with_reducible exact Ext.refl _) | (with_reducible apply Ext.alloc) | (with_reducible apply Ext.drewN) | (with_reducible apply Ext.drew) | (with_reducible refine Ext.setCell ?_ ?_ _))); all_goals (first | (simp; done) | (simp; omega) | omega)) hy) ?_
  clear hK
  (try simp only [Act.put, List.setIfInBounds_toArray, List.set_cons_zero, List.set_cons_succ])
  have hx13 : Ext w12 w13 := Ext.trans (by (repeat' (first | (with_reducible exact Ext.refl _) | (with_reducible apply Ext.alloc) | (with_reducible apply Ext.drewN) | (with_reducible apply Ext.drew) | (with_reducible refine Ext.setCell ?_ ?_ _))); all_goals (first | (simp; done) | (simp; omega) | omega)) hy
  have hs13 := hx13.size
  have he13 : Ext w w13 := he12.trans hx13
  have hBp_13 : Bx w13 (w.heap.size) [.int .i64 p.base.pc, .int .i64 p.base.len, (.slice Ap1 p.base.ops.length cp1), .int .i64 p.base.fin, .int .i64 p.base.x, .int .i64 p.base.y, .int .i64 p.base.k, .int .i64 p.made.pc, .int .i64 p.made.len, (.slice Ap2 p.made.ops.length cp2), .int .i64 p.made.fin, .int .i64 p.made.x, .int .i64 p.made.y, .int .i64 p.made.k] := hx13.bx hBp_12 (by omega)
  have hFp_13 : ∀ oo, w13.frozen? ⟨w.heap.size, oo, none⟩ = false := fun oo => (hx13.frozen (by omega)).trans (hFp_12 oo)
  have hBxp_13 : Bx w13 (w7.heap.size) [.int .i64 p.base.pc, .int .i64 p.base.len, (.slice A_xp1 (p.base.ops).length c_xp1), .int .i64 p.base.fin, .int .i64 p.base.x, .int .i64 p.base.y, .int .i64 p.base.k, .int .i64 p.made.pc, .int .i64 p.made.len, (.slice A_xp2 (p.made.ops).length c_xp2), .int .i64 p.made.fin, .int .i64 p.made.x, .int .i64 p.made.y, .int .i64 p.made.k] := hx13.bx hBxp_12 (by omega)
  have hFxp_13 : ∀ oo, w13.frozen? ⟨w7.heap.size, oo, none⟩ = false := fun oo => (hx13.frozen (by omega)).trans (hFxp_12 oo)
  clear hBp_12 hFp_12 hBxp_12 hFxp_12
  clear hy
  obtain ⟨A_yp1, c_yp1, rfl, -, -⟩ := ho_yp1.sl.form
  obtain ⟨A_yp2, c_yp2, rfl, -, -⟩ := ho_yp2.sl.form
  have fr_yp : Fr w12 w13 (F_yp1 ++ F_yp2) := hf_yp.mk1 (by first | exact Nat.le_refl _ | (simp; done)) (Nat.le_refl _)
  clear hf_yp
  refine Plan.tail_step ?_
  simp only [List.drop_succ_cons, List.drop_zero]
  clear hS
  clear xxp0 xxp1 xxp2 xxp3 xxp4 xxp5 xxp6 xxp7 xxp8 xxp9 xxp10 xxp11 xxp12 xxp13 yxp
  clear xp0 xp1 xp2 xp3 xp4 xp5 xp6 xp7 xp8 xp9 xp10 xp11 xp12 xp13 yp
  go_wp2_with fail
  refine (eq_CerPair p p _ _ _ _  _ ((OwnSl.up ho_xp1 (fr_xp.inl.mk1 (Nat.le_refl _) (by omega)) (Ext.trans (Ext.trans (Ext.trans (Ext.trans (Ext.trans hx8 hx9) hx10) hx11) hx12) hx13)).old (fr_xp.inl.mk1 (Nat.le_refl _) (by omega))) ((OwnSl.up ho_xp2 (fr_xp.inr.mk1 (Nat.le_refl _) (by omega)) (Ext.trans (Ext.trans (Ext.trans (Ext.trans (Ext.trans hx8 hx9) hx10) hx11) hx12) hx13)).old (fr_xp.inr.mk1 (Nat.le_refl _) (by omega))) ((OwnSl.up ho_yp1 (fr_yp.inl.mk1 (Nat.le_refl _) (by omega)) (Ext.refl _)).old (fr_yp.inl.mk1 (Nat.le_refl _) (by omega))) ((OwnSl.up ho_yp2 (fr_yp.inr.mk1 (Nat.le_refl _) (by omega)) (Ext.refl _)).old (fr_yp.inr.mk1 (Nat.le_refl _) (by omega)))).mono ?_
  rintro e w14 ⟨rfl, hy⟩
  have hx14 : Ext w13 w14 := Ext.trans (by (repeat' (first | (with_reducible exact Ext.refl _) | (with_reducible apply Ext.alloc) | (with_reducible apply Ext.drewN) | (with_reducible apply Ext.drew) | (with_reducible refine Ext.setCell ?_ ?_ _))); all_goals (first | (simp; done) | (simp; omega) | omega)) hy
  have hs14 := hx14.size
  have he14 : Ext w w14 := he13.trans hx14
  have hBp_14 : Bx w14 (w.heap.size) [.int .i64 p.base.pc, .int .i64 p.base.len, (.slice Ap1 p.base.ops.length cp1), .int .i64 p.base.fin, .int .i64 p.base.x, .int .i64 p.base.y, .int .i64 p.base.k, .int .i64 p.made.pc, .int .i64 p.made.len, (.slice Ap2 p.made.ops.length cp2), .int .i64 p.made.fin, .int .i64 p.made.x, .int .i64 p.made.y, .int .i64 p.made.k] := hx14.bx hBp_13 (by omega)
  have hFp_14 : ∀ oo, w14.frozen? ⟨w.heap.size, oo, none⟩ = false := fun oo => (hx14.frozen (by omega)).trans (hFp_13 oo)
  have hBxp_14 : Bx w14 (w7.heap.size) [.int .i64 p.base.pc, .int .i64 p.base.len, (.slice A_xp1 (p.base.ops).length c_xp1), .int .i64 p.base.fin, .int .i64 p.base.x, .int .i64 p.base.y, .int .i64 p.base.k, .int .i64 p.made.pc, .int .i64 p.made.len, (.slice A_xp2 (p.made.ops).length c_xp2), .int .i64 p.made.fin, .int .i64 p.made.x, .int .i64 p.made.y, .int .i64 p.made.k] := hx14.bx hBxp_13 (by omega)
  have hFxp_14 : ∀ oo, w14.frozen? ⟨w7.heap.size, oo, none⟩ = false := fun oo => (hx14.frozen (by omega)).trans (hFxp_13 oo)
  clear hBp_13 hFp_13 hBxp_13 hFxp_13
  clear hy
  clear ho_yp1 ho_yp2 fr_yp
  clear ho_pl1 fr_pl
  clear ho_pp1 ho_pp2 fr_pp
  have hct_xl := ct_le (l)
  go_wp2_with fail
  refine (mark_ListCerPair (l) _ _ (1) _ (OwnSl.up ho_xl1 (fr_xl.mk1 (Nat.le_refl _) (by omega)) (Ext.trans (Ext.trans (Ext.trans (Ext.trans (Ext.trans (Ext.trans (Ext.trans hx7 hx8) hx9) hx10) hx11) hx12) hx13) hx14)) fr_xl.1 (fun x hx => by have := (fr_xl.2 x hx).2; omega) (by omega) (by omega)).mono ?_
  rintro e w15 ⟨rfl, hm_xl1, hy⟩
  have hc15 : Chg F_xl1 w14 w15 := hy
  have hs15 := hc15.size
  have he15 : Ext w w15 := Chg.ext he14 hc15 (fun x hx => by have := (fr_xl.2 x hx).1; omega)
  have hBp_15 : Bx w15 (w.heap.size) [.int .i64 p.base.pc, .int .i64 p.base.len, (.slice Ap1 p.base.ops.length cp1), .int .i64 p.base.fin, .int .i64 p.base.x, .int .i64 p.base.y, .int .i64 p.base.k, .int .i64 p.made.pc, .int .i64 p.made.len, (.slice Ap2 p.made.ops.length cp2), .int .i64 p.made.fin, .int .i64 p.made.x, .int .i64 p.made.y, .int .i64 p.made.k] := fun j u hu => (hc15.cell (by omega) (by intro hm; have := (fr_xl.2 _ hm); have h1 := this.1; have h2 := this.2; omega)).trans (hBp_14 j u hu)
  have hFp_15 : ∀ oo, w15.frozen? ⟨w.heap.size, oo, none⟩ = false := fun oo => (hc15.frozen _ _ (by omega)).trans (hFp_14 oo)
  have hBxp_15 : Bx w15 (w7.heap.size) [.int .i64 p.base.pc, .int .i64 p.base.len, (.slice A_xp1 (p.base.ops).length c_xp1), .int .i64 p.base.fin, .int .i64 p.base.x, .int .i64 p.base.y, .int .i64 p.base.k, .int .i64 p.made.pc, .int .i64 p.made.len, (.slice A_xp2 (p.made.ops).length c_xp2), .int .i64 p.made.fin, .int .i64 p.made.x, .int .i64 p.made.y, .int .i64 p.made.k] := fun j u hu => (hc15.cell (by omega) (by intro hm; have := (fr_xl.2 _ hm); have h1 := this.1; have h2 := this.2; omega)).trans (hBxp_14 j u hu)
  have hFxp_15 : ∀ oo, w15.frozen? ⟨w7.heap.size, oo, none⟩ = false := fun oo => (hc15.frozen _ _ (by omega)).trans (hFxp_14 oo)
  clear hBp_14 hFp_14 hBxp_14 hFxp_14
  have ho_w1' := (OwnSl.up ho_w1 (fr_w.mk1 (Nat.le_refl _) (by omega)) (Ext.trans (Ext.trans (Ext.trans (Ext.trans (Ext.trans (Ext.trans (Ext.trans (Ext.trans hx6 hx7) hx8) hx9) hx10) hx11) hx12) hx13) hx14)).past fr_w (by omega) hc15 (fun x hx => (fr_w.apart fr_xl (by omega)) x (by simp [hx]))
  clear ho_w1
  have ho_w1 := ho_w1'
  clear ho_w1'
  have ho_xp1' := (OwnSl.up ho_xp1 (fr_xp.inl.mk1 (Nat.le_refl _) (by omega)) (Ext.trans (Ext.trans (Ext.trans (Ext.trans (Ext.trans (Ext.trans hx8 hx9) hx10) hx11) hx12) hx13) hx14)).past fr_xp.inl (by omega) hc15 (fun x hx => (fr_xp.apart' fr_xl (by omega)) x (by simp [hx]))
  clear ho_xp1
  have ho_xp1 := ho_xp1'
  clear ho_xp1'
  have ho_xp2' := (OwnSl.up ho_xp2 (fr_xp.inr.mk1 (Nat.le_refl _) (by omega)) (Ext.trans (Ext.trans (Ext.trans (Ext.trans (Ext.trans (Ext.trans hx8 hx9) hx10) hx11) hx12) hx13) hx14)).past fr_xp.inr (by omega) hc15 (fun x hx => (fr_xp.apart' fr_xl (by omega)) x (by simp [hx]))
  clear ho_xp2
  have ho_xp2 := ho_xp2'
  clear ho_xp2'
  have ho_g1' := (OwnSl.up ho_g1 (fr_g.mk1 (Nat.le_refl _) (by omega)) (Ext.trans (Ext.trans (Ext.trans (Ext.trans hx10 hx11) hx12) hx13) hx14)).past fr_g (by omega) hc15 (fun x hx => (fr_g.apart' fr_xl (by omega)) x (by simp [hx]))
  clear ho_g1
  have ho_g1 := ho_g1'
  clear ho_g1'
  clear hy
  have hct_xp := CerPair.ctV_le (p)
  have yxp : w7.heap.size < w15.heap.size := by omega
  have xxp0 : w15.cell? ⟨w7.heap.size, 0, none⟩ = some (.int .i64 p.base.pc) := hBxp_15 0 _ rfl
  have xxp1 : w15.cell? ⟨w7.heap.size, 1, none⟩ = some (.int .i64 p.base.len) := hBxp_15 1 _ rfl
  have xxp2 : w15.cell? ⟨w7.heap.size, 2, none⟩ = some ((.slice A_xp1 (p.base.ops).length c_xp1)) := hBxp_15 2 _ rfl
  have xxp3 : w15.cell? ⟨w7.heap.size, 3, none⟩ = some (.int .i64 p.base.fin) := hBxp_15 3 _ rfl
  have xxp4 : w15.cell? ⟨w7.heap.size, 4, none⟩ = some (.int .i64 p.base.x) := hBxp_15 4 _ rfl
  have xxp5 : w15.cell? ⟨w7.heap.size, 5, none⟩ = some (.int .i64 p.base.y) := hBxp_15 5 _ rfl
  have xxp6 : w15.cell? ⟨w7.heap.size, 6, none⟩ = some (.int .i64 p.base.k) := hBxp_15 6 _ rfl
  have xxp7 : w15.cell? ⟨w7.heap.size, 7, none⟩ = some (.int .i64 p.made.pc) := hBxp_15 7 _ rfl
  have xxp8 : w15.cell? ⟨w7.heap.size, 8, none⟩ = some (.int .i64 p.made.len) := hBxp_15 8 _ rfl
  have xxp9 : w15.cell? ⟨w7.heap.size, 9, none⟩ = some ((.slice A_xp2 (p.made.ops).length c_xp2)) := hBxp_15 9 _ rfl
  have xxp10 : w15.cell? ⟨w7.heap.size, 10, none⟩ = some (.int .i64 p.made.fin) := hBxp_15 10 _ rfl
  have xxp11 : w15.cell? ⟨w7.heap.size, 11, none⟩ = some (.int .i64 p.made.x) := hBxp_15 11 _ rfl
  have xxp12 : w15.cell? ⟨w7.heap.size, 12, none⟩ = some (.int .i64 p.made.y) := hBxp_15 12 _ rfl
  have xxp13 : w15.cell? ⟨w7.heap.size, 13, none⟩ = some (.int .i64 p.made.k) := hBxp_15 13 _ rfl
  go_wp2_with fail
  clear xxp0 xxp1 xxp2 xxp3 xxp4 xxp5 xxp6 xxp7 xxp8 xxp9 xxp10 xxp11 xxp12 xxp13 yxp
  refine (mark_CerPair (p) _ _ _ _ (1 + ((Mk.ct (l) : Nat) : Int)) _ (OwnSl.up ho_xp1 (fr_xp.inl.mk1 (Nat.le_refl _) (by omega)) (Ext.refl _)) (OwnSl.up ho_xp2 (fr_xp.inr.mk1 (Nat.le_refl _) (by omega)) (Ext.refl _)) fr_xp.1 (fun x hx => by have := (fr_xp.2 x hx).2; omega) (by omega) (by omega)).mono ?_
  rintro e w16 ⟨rfl, hm_xp1, hm_xp2, hy⟩
  have hc16 : Chg (F_xp1 ++ F_xp2) w15 w16 := hy
  have hs16 := hc16.size
  have he16 : Ext w w16 := Chg.ext he15 hc16 (fun x hx => by have := (fr_xp.2 x hx).1; omega)
  have hBp_16 : Bx w16 (w.heap.size) [.int .i64 p.base.pc, .int .i64 p.base.len, (.slice Ap1 p.base.ops.length cp1), .int .i64 p.base.fin, .int .i64 p.base.x, .int .i64 p.base.y, .int .i64 p.base.k, .int .i64 p.made.pc, .int .i64 p.made.len, (.slice Ap2 p.made.ops.length cp2), .int .i64 p.made.fin, .int .i64 p.made.x, .int .i64 p.made.y, .int .i64 p.made.k] := fun j u hu => (hc16.cell (by omega) (by intro hm; have := (fr_xp.2 _ hm); have h1 := this.1; have h2 := this.2; omega)).trans (hBp_15 j u hu)
  have hFp_16 : ∀ oo, w16.frozen? ⟨w.heap.size, oo, none⟩ = false := fun oo => (hc16.frozen _ _ (by omega)).trans (hFp_15 oo)
  have hBxp_16 : Bx w16 (w7.heap.size) [.int .i64 p.base.pc, .int .i64 p.base.len, (.slice A_xp1 (p.base.ops).length c_xp1), .int .i64 p.base.fin, .int .i64 p.base.x, .int .i64 p.base.y, .int .i64 p.base.k, .int .i64 p.made.pc, .int .i64 p.made.len, (.slice A_xp2 (p.made.ops).length c_xp2), .int .i64 p.made.fin, .int .i64 p.made.x, .int .i64 p.made.y, .int .i64 p.made.k] := fun j u hu => (hc16.cell (by omega) (by intro hm; have := (fr_xp.2 _ hm); have h1 := this.1; have h2 := this.2; omega)).trans (hBxp_15 j u hu)
  have hFxp_16 : ∀ oo, w16.frozen? ⟨w7.heap.size, oo, none⟩ = false := fun oo => (hc16.frozen _ _ (by omega)).trans (hFxp_15 oo)
  clear hBp_15 hFp_15 hBxp_15 hFxp_15
  have ho_w1' := (OwnSl.up ho_w1 (fr_w.mk1 (Nat.le_refl _) (by omega)) (Ext.refl _)).past fr_w (by omega) hc16 (fun x hx => (fr_w.apart fr_xp (by omega)) x (by simp [hx]))
  clear ho_w1
  have ho_w1 := ho_w1'
  clear ho_w1'
  have hm_xl1' := (OwnSl.up hm_xl1 (fr_xl.mk1 (Nat.le_refl _) (by omega)) (Ext.refl _)).past fr_xl (by omega) hc16 (fun x hx => (fr_xl.apart fr_xp (by omega)) x (by simp [hx]))
  clear hm_xl1
  have hm_xl1 := hm_xl1'
  clear hm_xl1'
  have ho_g1' := (OwnSl.up ho_g1 (fr_g.mk1 (Nat.le_refl _) (by omega)) (Ext.refl _)).past fr_g (by omega) hc16 (fun x hx => (fr_g.apart' fr_xp (by omega)) x (by simp [hx]))
  clear ho_g1
  have ho_g1 := ho_g1'
  clear ho_g1'
  clear hy
  go_wp2_with fail
  refine (eq_ListCerPair (cerPut l p) (cerPut l p) _ _  _ ((OwnSl.up ho_g1 (fr_g.mk1 (Nat.le_refl _) (by omega)) (Ext.refl _)).old (fr_g.mk1 (Nat.le_refl _) (by omega))) ((OwnSl.up ho_w1 (fr_w.mk1 (Nat.le_refl _) (by omega)) (Ext.refl _)).old (fr_w.mk1 (Nat.le_refl _) (by omega)))).mono ?_
  rintro e w17 ⟨rfl, hy⟩
  have hx17 : Ext w16 w17 := Ext.trans (by (repeat' (first | (with_reducible exact Ext.refl _) | (with_reducible apply Ext.alloc) | (with_reducible apply Ext.drewN) | (with_reducible apply Ext.drew) | (with_reducible refine Ext.setCell ?_ ?_ _))); all_goals (first | (simp; done) | (simp; omega) | omega)) hy
  have hs17 := hx17.size
  have he17 : Ext w w17 := he16.trans hx17
  have hBp_17 : Bx w17 (w.heap.size) [.int .i64 p.base.pc, .int .i64 p.base.len, (.slice Ap1 p.base.ops.length cp1), .int .i64 p.base.fin, .int .i64 p.base.x, .int .i64 p.base.y, .int .i64 p.base.k, .int .i64 p.made.pc, .int .i64 p.made.len, (.slice Ap2 p.made.ops.length cp2), .int .i64 p.made.fin, .int .i64 p.made.x, .int .i64 p.made.y, .int .i64 p.made.k] := hx17.bx hBp_16 (by omega)
  have hFp_17 : ∀ oo, w17.frozen? ⟨w.heap.size, oo, none⟩ = false := fun oo => (hx17.frozen (by omega)).trans (hFp_16 oo)
  have hBxp_17 : Bx w17 (w7.heap.size) [.int .i64 p.base.pc, .int .i64 p.base.len, (.slice A_xp1 (p.base.ops).length c_xp1), .int .i64 p.base.fin, .int .i64 p.base.x, .int .i64 p.base.y, .int .i64 p.base.k, .int .i64 p.made.pc, .int .i64 p.made.len, (.slice A_xp2 (p.made.ops).length c_xp2), .int .i64 p.made.fin, .int .i64 p.made.x, .int .i64 p.made.y, .int .i64 p.made.k] := hx17.bx hBxp_16 (by omega)
  have hFxp_17 : ∀ oo, w17.frozen? ⟨w7.heap.size, oo, none⟩ = false := fun oo => (hx17.frozen (by omega)).trans (hFxp_16 oo)
  clear hBp_16 hFp_16 hBxp_16 hFxp_16
  clear hy
  clear hm_xl1 fr_xl
  clear hm_xp1 hm_xp2 fr_xp
  have hct_g := ct_le (cerPut l p)
  have hrb := blk_cerPut l p
  go_wp2_with fail
  refine (mark_ListCerPair (cerPut l p) _ _ (1) _ (OwnSl.up ho_g1 (fr_g.mk1 (Nat.le_refl _) (by omega)) hx17) fr_g.1 (fun x hx => by have := (fr_g.2 x hx).2; omega) (by omega) (by omega)).mono ?_
  rintro e w18 ⟨rfl, hm_g1, hy⟩
  have hc18 : Chg F_g1 w17 w18 := hy
  have hs18 := hc18.size
  have he18 : Ext w w18 := Chg.ext he17 hc18 (fun x hx => by have := (fr_g.2 x hx).1; omega)
  have hBp_18 : Bx w18 (w.heap.size) [.int .i64 p.base.pc, .int .i64 p.base.len, (.slice Ap1 p.base.ops.length cp1), .int .i64 p.base.fin, .int .i64 p.base.x, .int .i64 p.base.y, .int .i64 p.base.k, .int .i64 p.made.pc, .int .i64 p.made.len, (.slice Ap2 p.made.ops.length cp2), .int .i64 p.made.fin, .int .i64 p.made.x, .int .i64 p.made.y, .int .i64 p.made.k] := fun j u hu => (hc18.cell (by omega) (by intro hm; have := (fr_g.2 _ hm); have h1 := this.1; have h2 := this.2; omega)).trans (hBp_17 j u hu)
  have hFp_18 : ∀ oo, w18.frozen? ⟨w.heap.size, oo, none⟩ = false := fun oo => (hc18.frozen _ _ (by omega)).trans (hFp_17 oo)
  have hBxp_18 : Bx w18 (w7.heap.size) [.int .i64 p.base.pc, .int .i64 p.base.len, (.slice A_xp1 (p.base.ops).length c_xp1), .int .i64 p.base.fin, .int .i64 p.base.x, .int .i64 p.base.y, .int .i64 p.base.k, .int .i64 p.made.pc, .int .i64 p.made.len, (.slice A_xp2 (p.made.ops).length c_xp2), .int .i64 p.made.fin, .int .i64 p.made.x, .int .i64 p.made.y, .int .i64 p.made.k] := fun j u hu => (hc18.cell (by omega) (by intro hm; have := (fr_g.2 _ hm); have h1 := this.1; have h2 := this.2; omega)).trans (hBxp_17 j u hu)
  have hFxp_18 : ∀ oo, w18.frozen? ⟨w7.heap.size, oo, none⟩ = false := fun oo => (hc18.frozen _ _ (by omega)).trans (hFxp_17 oo)
  clear hBp_17 hFp_17 hBxp_17 hFxp_17
  have ho_w1' := (OwnSl.up ho_w1 (fr_w.mk1 (Nat.le_refl _) (by omega)) hx17).past fr_w (by omega) hc18 (fun x hx => (fr_w.apart fr_g (by omega)) x (by simp [hx]))
  clear ho_w1
  have ho_w1 := ho_w1'
  clear ho_w1'
  clear hy
  go_wp2_with fail
  refine (held_ListCerPair (cerPut l p) _ (1) _ ((OwnSl.up hm_g1 (fr_g.mk1 (Nat.le_refl _) (by omega)) (Ext.refl _)).old (fr_g.mk1 (Nat.le_refl _) (by omega))) (by omega) (by omega)).mono ?_
  rintro e w19 ⟨rfl, hy⟩
  have hx19 : Ext w18 w19 := Ext.trans (by (repeat' (first | (with_reducible exact Ext.refl _) | (with_reducible apply Ext.alloc) | (with_reducible apply Ext.drewN) | (with_reducible apply Ext.drew) | (with_reducible refine Ext.setCell ?_ ?_ _))); all_goals (first | (simp; done) | (simp; omega) | omega)) hy
  have hs19 := hx19.size
  have he19 : Ext w w19 := he18.trans hx19
  have hBp_19 : Bx w19 (w.heap.size) [.int .i64 p.base.pc, .int .i64 p.base.len, (.slice Ap1 p.base.ops.length cp1), .int .i64 p.base.fin, .int .i64 p.base.x, .int .i64 p.base.y, .int .i64 p.base.k, .int .i64 p.made.pc, .int .i64 p.made.len, (.slice Ap2 p.made.ops.length cp2), .int .i64 p.made.fin, .int .i64 p.made.x, .int .i64 p.made.y, .int .i64 p.made.k] := hx19.bx hBp_18 (by omega)
  have hFp_19 : ∀ oo, w19.frozen? ⟨w.heap.size, oo, none⟩ = false := fun oo => (hx19.frozen (by omega)).trans (hFp_18 oo)
  have hBxp_19 : Bx w19 (w7.heap.size) [.int .i64 p.base.pc, .int .i64 p.base.len, (.slice A_xp1 (p.base.ops).length c_xp1), .int .i64 p.base.fin, .int .i64 p.base.x, .int .i64 p.base.y, .int .i64 p.base.k, .int .i64 p.made.pc, .int .i64 p.made.len, (.slice A_xp2 (p.made.ops).length c_xp2), .int .i64 p.made.fin, .int .i64 p.made.x, .int .i64 p.made.y, .int .i64 p.made.k] := hx19.bx hBxp_18 (by omega)
  have hFxp_19 : ∀ oo, w19.frozen? ⟨w7.heap.size, oo, none⟩ = false := fun oo => (hx19.frozen (by omega)).trans (hFxp_18 oo)
  clear hBp_18 hFp_18 hBxp_18 hFxp_18
  clear hy
  go_wp2_with fail
  have yp : w.heap.size < w19.heap.size := by omega
  have xp0 : w19.cell? ⟨w.heap.size, 0, none⟩ = some (.int .i64 p.base.pc) := hBp_19 0 _ rfl
  have xp1 : w19.cell? ⟨w.heap.size, 1, none⟩ = some (.int .i64 p.base.len) := hBp_19 1 _ rfl
  have xp2 : w19.cell? ⟨w.heap.size, 2, none⟩ = some ((.slice Ap1 p.base.ops.length cp1)) := hBp_19 2 _ rfl
  have xp3 : w19.cell? ⟨w.heap.size, 3, none⟩ = some (.int .i64 p.base.fin) := hBp_19 3 _ rfl
  have xp4 : w19.cell? ⟨w.heap.size, 4, none⟩ = some (.int .i64 p.base.x) := hBp_19 4 _ rfl
  have xp5 : w19.cell? ⟨w.heap.size, 5, none⟩ = some (.int .i64 p.base.y) := hBp_19 5 _ rfl
  have xp6 : w19.cell? ⟨w.heap.size, 6, none⟩ = some (.int .i64 p.base.k) := hBp_19 6 _ rfl
  have xp7 : w19.cell? ⟨w.heap.size, 7, none⟩ = some (.int .i64 p.made.pc) := hBp_19 7 _ rfl
  have xp8 : w19.cell? ⟨w.heap.size, 8, none⟩ = some (.int .i64 p.made.len) := hBp_19 8 _ rfl
  have xp9 : w19.cell? ⟨w.heap.size, 9, none⟩ = some ((.slice Ap2 p.made.ops.length cp2)) := hBp_19 9 _ rfl
  have xp10 : w19.cell? ⟨w.heap.size, 10, none⟩ = some (.int .i64 p.made.fin) := hBp_19 10 _ rfl
  have xp11 : w19.cell? ⟨w.heap.size, 11, none⟩ = some (.int .i64 p.made.x) := hBp_19 11 _ rfl
  have xp12 : w19.cell? ⟨w.heap.size, 12, none⟩ = some (.int .i64 p.made.y) := hBp_19 12 _ rfl
  have xp13 : w19.cell? ⟨w.heap.size, 13, none⟩ = some (.int .i64 p.made.k) := hBp_19 13 _ rfl
  have hS : ∀ w', Ext w19 w' → ∀ bb oo, bb < w19.heap.size → w'.cell? ⟨bb, oo, none⟩ = w19.cell? ⟨bb, oo, none⟩ := fun w' hx bb oo hb => hx.cell hb
  refine wp_region_plan (fun w' => Ext w19 w') 3 (.float 0 (.float 2 (.chain 1 (.tail 3)))) (by kernel_rfl) (by kernel_rfl) (Ext.refl _).drew ?_
  (refine Plan.float_step (v := ?_) rfl (by rfl) (fun _ _ _ h => h) (fun w' hSw => ?_) ?_; rotate_left; · (go_simp; try with_reducible rfl)); (try simp only [Act.put, List.setIfInBounds_toArray, List.set_cons_zero, List.set_cons_succ])
  (refine Plan.float_step (v := ?_) rfl (by rfl) (fun _ _ _ h => h) (fun w' hSw => ?_) ?_; rotate_left; · (go_simp; try with_reducible rfl)); (try simp only [Act.put, List.setIfInBounds_toArray, List.set_cons_zero, List.set_cons_succ])
  refine Plan.chain_step rfl (fun K hK => ?_)
  go_simp
  refine (to_ListCerPair l _ _ (hl.ext (Ext.trans he19 (by (repeat' (first | (with_reducible exact Ext.refl _) | (with_reducible apply Ext.alloc) | (with_reducible apply Ext.drewN) | (with_reducible apply Ext.drew) | (with_reducible refine Ext.setCell ?_ ?_ _))); all_goals (first | (simp; done) | (simp; omega) | omega)))) nl).mono ?_
  rintro e w20 ⟨r_zl1, F_zl1, rfl, ho_zl1, hf_zl, hy⟩
  refine hK.out _ _ (Ext.trans (by (repeat' (first | (with_reducible exact Ext.refl _) | (with_reducible apply Ext.alloc) | (with_reducible apply Ext.drewN) | (with_reducible apply Ext.drew) | (with_reducible refine Ext.setCell ?_ ?_ _))); all_goals (first | (simp; done) | (simp; omega) | omega)) hy) ?_
  clear hK
  (try simp only [Act.put, List.setIfInBounds_toArray, List.set_cons_zero, List.set_cons_succ])
  have hx20 : Ext w19 w20 := Ext.trans (by (repeat' (first | (with_reducible exact Ext.refl _) | (with_reducible apply Ext.alloc) | (with_reducible apply Ext.drewN) | (with_reducible apply Ext.drew) | (with_reducible refine Ext.setCell ?_ ?_ _))); all_goals (first | (simp; done) | (simp; omega) | omega)) hy
  have hs20 := hx20.size
  have he20 : Ext w w20 := he19.trans hx20
  have hBp_20 : Bx w20 (w.heap.size) [.int .i64 p.base.pc, .int .i64 p.base.len, (.slice Ap1 p.base.ops.length cp1), .int .i64 p.base.fin, .int .i64 p.base.x, .int .i64 p.base.y, .int .i64 p.base.k, .int .i64 p.made.pc, .int .i64 p.made.len, (.slice Ap2 p.made.ops.length cp2), .int .i64 p.made.fin, .int .i64 p.made.x, .int .i64 p.made.y, .int .i64 p.made.k] := hx20.bx hBp_19 (by omega)
  have hFp_20 : ∀ oo, w20.frozen? ⟨w.heap.size, oo, none⟩ = false := fun oo => (hx20.frozen (by omega)).trans (hFp_19 oo)
  have hBxp_20 : Bx w20 (w7.heap.size) [.int .i64 p.base.pc, .int .i64 p.base.len, (.slice A_xp1 (p.base.ops).length c_xp1), .int .i64 p.base.fin, .int .i64 p.base.x, .int .i64 p.base.y, .int .i64 p.base.k, .int .i64 p.made.pc, .int .i64 p.made.len, (.slice A_xp2 (p.made.ops).length c_xp2), .int .i64 p.made.fin, .int .i64 p.made.x, .int .i64 p.made.y, .int .i64 p.made.k] := hx20.bx hBxp_19 (by omega)
  have hFxp_20 : ∀ oo, w20.frozen? ⟨w7.heap.size, oo, none⟩ = false := fun oo => (hx20.frozen (by omega)).trans (hFxp_19 oo)
  clear hBp_19 hFp_19 hBxp_19 hFxp_19
  clear hy
  obtain ⟨A_zl1, c_zl1, rfl, -, -⟩ := ho_zl1.sl.form
  have fr_zl : Fr w19 w20 (F_zl1) := hf_zl.mk1 (by first | exact Nat.le_refl _ | (simp; done)) (Nat.le_refl _)
  clear hf_zl
  refine Plan.tail_step ?_
  simp only [List.drop_succ_cons, List.drop_zero]
  clear hS
  clear xp0 xp1 xp2 xp3 xp4 xp5 xp6 xp7 xp8 xp9 xp10 xp11 xp12 xp13 yp
  go_wp2_with fail
  refine (to_CerPair p _ _ _ (hp1.ext (Ext.trans he20 (by (repeat' (first | (with_reducible exact Ext.refl _) | (with_reducible apply Ext.alloc) | (with_reducible apply Ext.drewN) | (with_reducible apply Ext.drew) | (with_reducible refine Ext.setCell ?_ ?_ _))); all_goals (first | (simp; done) | (simp; omega) | omega)))) (hp2.ext (Ext.trans he20 (by (repeat' (first | (with_reducible exact Ext.refl _) | (with_reducible apply Ext.alloc) | (with_reducible apply Ext.drewN) | (with_reducible apply Ext.drew) | (with_reducible refine Ext.setCell ?_ ?_ _))); all_goals (first | (simp; done) | (simp; omega) | omega)))) np).mono ?_
  rintro e w21 ⟨r_zp1, r_zp2, F_zp1, F_zp2, rfl, ho_zp1, ho_zp2, hf_zp, hy⟩
  have hx21 : Ext w20 w21 := Ext.trans (by (repeat' (first | (with_reducible exact Ext.refl _) | (with_reducible apply Ext.alloc) | (with_reducible apply Ext.drewN) | (with_reducible apply Ext.drew) | (with_reducible refine Ext.setCell ?_ ?_ _))); all_goals (first | (simp; done) | (simp; omega) | omega)) hy
  have hs21 := hx21.size
  have he21 : Ext w w21 := he20.trans hx21
  have hBp_21 : Bx w21 (w.heap.size) [.int .i64 p.base.pc, .int .i64 p.base.len, (.slice Ap1 p.base.ops.length cp1), .int .i64 p.base.fin, .int .i64 p.base.x, .int .i64 p.base.y, .int .i64 p.base.k, .int .i64 p.made.pc, .int .i64 p.made.len, (.slice Ap2 p.made.ops.length cp2), .int .i64 p.made.fin, .int .i64 p.made.x, .int .i64 p.made.y, .int .i64 p.made.k] := hx21.bx hBp_20 (by omega)
  have hFp_21 : ∀ oo, w21.frozen? ⟨w.heap.size, oo, none⟩ = false := fun oo => (hx21.frozen (by omega)).trans (hFp_20 oo)
  have hBxp_21 : Bx w21 (w7.heap.size) [.int .i64 p.base.pc, .int .i64 p.base.len, (.slice A_xp1 (p.base.ops).length c_xp1), .int .i64 p.base.fin, .int .i64 p.base.x, .int .i64 p.base.y, .int .i64 p.base.k, .int .i64 p.made.pc, .int .i64 p.made.len, (.slice A_xp2 (p.made.ops).length c_xp2), .int .i64 p.made.fin, .int .i64 p.made.x, .int .i64 p.made.y, .int .i64 p.made.k] := hx21.bx hBxp_20 (by omega)
  have hFxp_21 : ∀ oo, w21.frozen? ⟨w7.heap.size, oo, none⟩ = false := fun oo => (hx21.frozen (by omega)).trans (hFxp_20 oo)
  clear hBp_20 hFp_20 hBxp_20 hFxp_20
  clear hy
  obtain ⟨A_zp1, c_zp1, rfl, -, -⟩ := ho_zp1.sl.form
  obtain ⟨A_zp2, c_zp2, rfl, -, -⟩ := ho_zp2.sl.form
  have fr_zp : Fr w20 w21 (F_zp1 ++ F_zp2) := hf_zp.mk1 (by first | exact Nat.le_refl _ | (simp; done)) (Nat.le_refl _)
  clear hf_zp
  go_wp2_with fail
  refine (implCerPut_any l p _ _ _ _ ((OwnSl.up ho_zl1 (fr_zl.mk1 (Nat.le_refl _) (by omega)) hx21).old (fr_zl.mk1 (Nat.le_refl _) (by omega))) ((OwnSl.up ho_zp1 (fr_zp.inl.mk1 (Nat.le_refl _) (by omega)) (Ext.refl _)).old (fr_zp.inl.mk1 (Nat.le_refl _) (by omega))) ((OwnSl.up ho_zp2 (fr_zp.inr.mk1 (Nat.le_refl _) (by omega)) (Ext.refl _)).old (fr_zp.inr.mk1 (Nat.le_refl _) (by omega))) hkp (by omega)).mono ?_
  rintro e w22 ⟨r_h1, F_h1, rfl, ho_h1, hf_h, hy⟩
  have hx22 : Ext w21 w22 := Ext.trans (by (repeat' (first | (with_reducible exact Ext.refl _) | (with_reducible apply Ext.alloc) | (with_reducible apply Ext.drewN) | (with_reducible apply Ext.drew) | (with_reducible refine Ext.setCell ?_ ?_ _))); all_goals (first | (simp; done) | (simp; omega) | omega)) hy
  have hs22 := hx22.size
  have he22 : Ext w w22 := he21.trans hx22
  have hBp_22 : Bx w22 (w.heap.size) [.int .i64 p.base.pc, .int .i64 p.base.len, (.slice Ap1 p.base.ops.length cp1), .int .i64 p.base.fin, .int .i64 p.base.x, .int .i64 p.base.y, .int .i64 p.base.k, .int .i64 p.made.pc, .int .i64 p.made.len, (.slice Ap2 p.made.ops.length cp2), .int .i64 p.made.fin, .int .i64 p.made.x, .int .i64 p.made.y, .int .i64 p.made.k] := hx22.bx hBp_21 (by omega)
  have hFp_22 : ∀ oo, w22.frozen? ⟨w.heap.size, oo, none⟩ = false := fun oo => (hx22.frozen (by omega)).trans (hFp_21 oo)
  have hBxp_22 : Bx w22 (w7.heap.size) [.int .i64 p.base.pc, .int .i64 p.base.len, (.slice A_xp1 (p.base.ops).length c_xp1), .int .i64 p.base.fin, .int .i64 p.base.x, .int .i64 p.base.y, .int .i64 p.base.k, .int .i64 p.made.pc, .int .i64 p.made.len, (.slice A_xp2 (p.made.ops).length c_xp2), .int .i64 p.made.fin, .int .i64 p.made.x, .int .i64 p.made.y, .int .i64 p.made.k] := hx22.bx hBxp_21 (by omega)
  have hFxp_22 : ∀ oo, w22.frozen? ⟨w7.heap.size, oo, none⟩ = false := fun oo => (hx22.frozen (by omega)).trans (hFxp_21 oo)
  clear hBp_21 hFp_21 hBxp_21 hFxp_21
  clear hy
  obtain ⟨A_h1, c_h1, rfl, -, -⟩ := ho_h1.sl.form
  have fr_h : Fr w21 w22 (F_h1) := hf_h.mk1 (by first | exact Nat.le_refl _ | (simp; done)) (Nat.le_refl _)
  clear hf_h
  go_wp2_with fail
  refine (eq_ListCerPair (cerPut l p) (cerPut l p) _ _  _ ((OwnSl.up ho_h1 (fr_h.mk1 (Nat.le_refl _) (by omega)) (Ext.refl _)).old (fr_h.mk1 (Nat.le_refl _) (by omega))) ((OwnSl.up ho_w1 (fr_w.mk1 (Nat.le_refl _) (by omega)) (Ext.trans (Ext.trans (Ext.trans hx19 hx20) hx21) hx22)).old (fr_w.mk1 (Nat.le_refl _) (by omega)))).mono ?_
  rintro e w23 ⟨rfl, hy⟩
  have hx23 : Ext w22 w23 := Ext.trans (by (repeat' (first | (with_reducible exact Ext.refl _) | (with_reducible apply Ext.alloc) | (with_reducible apply Ext.drewN) | (with_reducible apply Ext.drew) | (with_reducible refine Ext.setCell ?_ ?_ _))); all_goals (first | (simp; done) | (simp; omega) | omega)) hy
  have hs23 := hx23.size
  have he23 : Ext w w23 := he22.trans hx23
  have hBp_23 : Bx w23 (w.heap.size) [.int .i64 p.base.pc, .int .i64 p.base.len, (.slice Ap1 p.base.ops.length cp1), .int .i64 p.base.fin, .int .i64 p.base.x, .int .i64 p.base.y, .int .i64 p.base.k, .int .i64 p.made.pc, .int .i64 p.made.len, (.slice Ap2 p.made.ops.length cp2), .int .i64 p.made.fin, .int .i64 p.made.x, .int .i64 p.made.y, .int .i64 p.made.k] := hx23.bx hBp_22 (by omega)
  have hFp_23 : ∀ oo, w23.frozen? ⟨w.heap.size, oo, none⟩ = false := fun oo => (hx23.frozen (by omega)).trans (hFp_22 oo)
  have hBxp_23 : Bx w23 (w7.heap.size) [.int .i64 p.base.pc, .int .i64 p.base.len, (.slice A_xp1 (p.base.ops).length c_xp1), .int .i64 p.base.fin, .int .i64 p.base.x, .int .i64 p.base.y, .int .i64 p.base.k, .int .i64 p.made.pc, .int .i64 p.made.len, (.slice A_xp2 (p.made.ops).length c_xp2), .int .i64 p.made.fin, .int .i64 p.made.x, .int .i64 p.made.y, .int .i64 p.made.k] := hx23.bx hBxp_22 (by omega)
  have hFxp_23 : ∀ oo, w23.frozen? ⟨w7.heap.size, oo, none⟩ = false := fun oo => (hx23.frozen (by omega)).trans (hFxp_22 oo)
  clear hBp_22 hFp_22 hBxp_22 hFxp_22
  clear hy
  go_wp2_with fail
  refine (held_ListCerPair (cerPut l p) _ (1) _ ((OwnSl.up hm_g1 (fr_g.mk1 (Nat.le_refl _) (by omega)) (Ext.trans (Ext.trans (Ext.trans (Ext.trans hx19 hx20) hx21) hx22) hx23)).old (fr_g.mk1 (Nat.le_refl _) (by omega))) (by omega) (by omega)).mono ?_
  rintro e w24 ⟨rfl, hy⟩
  have hx24 : Ext w23 w24 := Ext.trans (by (repeat' (first | (with_reducible exact Ext.refl _) | (with_reducible apply Ext.alloc) | (with_reducible apply Ext.drewN) | (with_reducible apply Ext.drew) | (with_reducible refine Ext.setCell ?_ ?_ _))); all_goals (first | (simp; done) | (simp; omega) | omega)) hy
  have hs24 := hx24.size
  have he24 : Ext w w24 := he23.trans hx24
  have hBp_24 : Bx w24 (w.heap.size) [.int .i64 p.base.pc, .int .i64 p.base.len, (.slice Ap1 p.base.ops.length cp1), .int .i64 p.base.fin, .int .i64 p.base.x, .int .i64 p.base.y, .int .i64 p.base.k, .int .i64 p.made.pc, .int .i64 p.made.len, (.slice Ap2 p.made.ops.length cp2), .int .i64 p.made.fin, .int .i64 p.made.x, .int .i64 p.made.y, .int .i64 p.made.k] := hx24.bx hBp_23 (by omega)
  have hFp_24 : ∀ oo, w24.frozen? ⟨w.heap.size, oo, none⟩ = false := fun oo => (hx24.frozen (by omega)).trans (hFp_23 oo)
  have hBxp_24 : Bx w24 (w7.heap.size) [.int .i64 p.base.pc, .int .i64 p.base.len, (.slice A_xp1 (p.base.ops).length c_xp1), .int .i64 p.base.fin, .int .i64 p.base.x, .int .i64 p.base.y, .int .i64 p.base.k, .int .i64 p.made.pc, .int .i64 p.made.len, (.slice A_xp2 (p.made.ops).length c_xp2), .int .i64 p.made.fin, .int .i64 p.made.x, .int .i64 p.made.y, .int .i64 p.made.k] := hx24.bx hBxp_23 (by omega)
  have hFxp_24 : ∀ oo, w24.frozen? ⟨w7.heap.size, oo, none⟩ = false := fun oo => (hx24.frozen (by omega)).trans (hFxp_23 oo)
  clear hBp_23 hFp_23 hBxp_23 hFxp_23
  clear hy
  go_wp2
  go_ret
  exact ⟨rfl, he24⟩

end Go.Proofs.Ytjemadbhpbbhlaa
