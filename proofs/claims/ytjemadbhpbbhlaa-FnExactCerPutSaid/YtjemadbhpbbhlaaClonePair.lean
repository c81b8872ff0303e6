/-
  The program and the reference copy pairs of blocks into fresh memory.
-/
import Derived.Test.YtjemadbhpbbhlaaClone
import Derived.Test.YtjemadbhpbbhlaaRegLib
namespace Go.Proofs.Ytjemadbhpbbhlaa
open Go.RowKit

set_option linter.unusedVariables false
set_option linter.unusedSimpArgs false
set_option maxRecDepth 100000

set_option maxHeartbeats 4000000 in
theorem clonePair_any (o : CerPair) (vo1 vo2 : Value) (w : World) (ho1 : Sl w (Old w) vo1 o.base.ops) (ho2 : Sl w (Old w) vo2 o.made.ops) (hn1 : o.base.ops.length ≤ 4194304) (hn2 : o.made.ops.length ≤ 4194304) :
    Calls Try.prog 135 #[.agg #[.int .i64 o.base.pc, .int .i64 o.base.len, vo1, .int .i64 o.base.fin, .int .i64 o.base.x, .int .i64 o.base.y, .int .i64 o.base.k, .int .i64 o.made.pc, .int .i64 o.made.len, vo2, .int .i64 o.made.fin, .int .i64 o.made.x, .int .i64 o.made.y, .int .i64 o.made.k]] w fun e w' => ∃ (r1 r2 : Value) (F1 F2 : List Nat), e = .returned (.agg #[.int .i64 o.base.pc, .int .i64 o.base.len, r1, .int .i64 o.base.fin, .int .i64 o.base.x, .int .i64 o.base.y, .int .i64 o.base.k, .int .i64 o.made.pc, .int .i64 o.made.len, r2, .int .i64 o.made.fin, .int .i64 o.made.x, .int .i64 o.made.y, .int .i64 o.made.k]) ∧ OwnSl w' r1 o.base.ops F1 ∧ OwnSl w' r2 o.made.ops F2 ∧ Fr w w' (F1 ++ F2) ∧ Ext w w' := by
  obtain ⟨Ao1, co1, rfl, hlo1, hmo1⟩ := ho1.form
  obtain ⟨Ao2, co2, rfl, hlo2, hmo2⟩ := ho2.form
  go_enter Try.func135, Try.ntmps135
  go_wp2_with fail
  have he0 : Ext w ((w.alloc (Obj.cells #[.int .i64 o.base.pc, .int .i64 o.base.len, (.slice Ao1 o.base.ops.length co1), .int .i64 o.base.fin, .int .i64 o.base.x, .int .i64 o.base.y, .int .i64 o.base.k, .int .i64 o.made.pc, .int .i64 o.made.len, (.slice Ao2 o.made.ops.length co2), .int .i64 o.made.fin, .int .i64 o.made.x, .int .i64 o.made.y, .int .i64 o.made.k] 54)).alloc (Obj.cells #[.int .i64 0, .int .i64 0, .slice none 0 0, .int .i64 0, .int .i64 0, .int .i64 0, .int .i64 0, .int .i64 0, .int .i64 0, .slice none 0 0, .int .i64 0, .int .i64 0, .int .i64 0, .int .i64 0] 54)) := (by (repeat' (first | (with_reducible exact Ext.refl _) | (with_reducible apply Ext.alloc) | (with_reducible apply Ext.drewN) | (with_reducible apply Ext.drew) | (with_reducible refine Ext.setCell ?_ ?_ _))); all_goals (first | (simp; done) | (simp; omega) | omega))
  have hs0 : w.heap.size + 2 ≤ (((w.alloc (Obj.cells #[.int .i64 o.base.pc, .int .i64 o.base.len, (.slice Ao1 o.base.ops.length co1), .int .i64 o.base.fin, .int .i64 o.base.x, .int .i64 o.base.y, .int .i64 o.base.k, .int .i64 o.made.pc, .int .i64 o.made.len, (.slice Ao2 o.made.ops.length co2), .int .i64 o.made.fin, .int .i64 o.made.x, .int .i64 o.made.y, .int .i64 o.made.k] 54)).alloc (Obj.cells #[.int .i64 0, .int .i64 0, .slice none 0 0, .int .i64 0, .int .i64 0, .int .i64 0, .int .i64 0, .int .i64 0, .int .i64 0, .slice none 0 0, .int .i64 0, .int .i64 0, .int .i64 0, .int .i64 0] 54))).heap.size := by simp
  have hBo_0 : Bx ((w.alloc (Obj.cells #[.int .i64 o.base.pc, .int .i64 o.base.len, (.slice Ao1 o.base.ops.length co1), .int .i64 o.base.fin, .int .i64 o.base.x, .int .i64 o.base.y, .int .i64 o.base.k, .int .i64 o.made.pc, .int .i64 o.made.len, (.slice Ao2 o.made.ops.length co2), .int .i64 o.made.fin, .int .i64 o.made.x, .int .i64 o.made.y, .int .i64 o.made.k] 54)).alloc (Obj.cells #[.int .i64 0, .int .i64 0, .slice none 0 0, .int .i64 0, .int .i64 0, .int .i64 0, .int .i64 0, .int .i64 0, .int .i64 0, .slice none 0 0, .int .i64 0, .int .i64 0, .int .i64 0, .int .i64 0] 54)) (w.heap.size) [.int .i64 o.base.pc, .int .i64 o.base.len, (.slice Ao1 o.base.ops.length co1), .int .i64 o.base.fin, .int .i64 o.base.x, .int .i64 o.base.y, .int .i64 o.base.k, .int .i64 o.made.pc, .int .i64 o.made.len, (.slice Ao2 o.made.ops.length co2), .int .i64 o.made.fin, .int .i64 o.made.x, .int .i64 o.made.y, .int .i64 o.made.k] := (by have := (Bx.alloc (Bx.new w #[.int .i64 o.base.pc, .int .i64 o.base.len, (.slice Ao1 o.base.ops.length co1), .int .i64 o.base.fin, .int .i64 o.base.x, .int .i64 o.base.y, .int .i64 o.base.k, .int .i64 o.made.pc, .int .i64 o.made.len, (.slice Ao2 o.made.ops.length co2), .int .i64 o.made.fin, .int .i64 o.made.x, .int .i64 o.made.y, .int .i64 o.made.k] 54) (by simp) #[.int .i64 0, .int .i64 0, .slice none 0 0, .int .i64 0, .int .i64 0, .int .i64 0, .int .i64 0, .int .i64 0, .int .i64 0, .slice none 0 0, .int .i64 0, .int .i64 0, .int .i64 0, .int .i64 0] 54); simpa using this)
  have hFo_0 : ∀ oo, (((w.alloc (Obj.cells #[.int .i64 o.base.pc, .int .i64 o.base.len, (.slice Ao1 o.base.ops.length co1), .int .i64 o.base.fin, .int .i64 o.base.x, .int .i64 o.base.y, .int .i64 o.base.k, .int .i64 o.made.pc, .int .i64 o.made.len, (.slice Ao2 o.made.ops.length co2), .int .i64 o.made.fin, .int .i64 o.made.x, .int .i64 o.made.y, .int .i64 o.made.k] 54)).alloc (Obj.cells #[.int .i64 0, .int .i64 0, .slice none 0 0, .int .i64 0, .int .i64 0, .int .i64 0, .int .i64 0, .int .i64 0, .int .i64 0, .slice none 0 0, .int .i64 0, .int .i64 0, .int .i64 0, .int .i64 0] 54))).frozen? ⟨w.heap.size, oo, none⟩ = false := fun oo => by simp
  have hBres_0 : Bx ((w.alloc (Obj.cells #[.int .i64 o.base.pc, .int .i64 o.base.len, (.slice Ao1 o.base.ops.length co1), .int .i64 o.base.fin, .int .i64 o.base.x, .int .i64 o.base.y, .int .i64 o.base.k, .int .i64 o.made.pc, .int .i64 o.made.len, (.slice Ao2 o.made.ops.length co2), .int .i64 o.made.fin, .int .i64 o.made.x, .int .i64 o.made.y, .int .i64 o.made.k] 54)).alloc (Obj.cells #[.int .i64 0, .int .i64 0, .slice none 0 0, .int .i64 0, .int .i64 0, .int .i64 0, .int .i64 0, .int .i64 0, .int .i64 0, .slice none 0 0, .int .i64 0, .int .i64 0, .int .i64 0, .int .i64 0] 54)) (w.heap.size + 1) [.int .i64 0, .int .i64 0, .slice none 0 0, .int .i64 0, .int .i64 0, .int .i64 0, .int .i64 0, .int .i64 0, .int .i64 0, .slice none 0 0, .int .i64 0, .int .i64 0, .int .i64 0, .int .i64 0] := (by have := (Bx.new (w.alloc (Obj.cells #[.int .i64 o.base.pc, .int .i64 o.base.len, (.slice Ao1 o.base.ops.length co1), .int .i64 o.base.fin, .int .i64 o.base.x, .int .i64 o.base.y, .int .i64 o.base.k, .int .i64 o.made.pc, .int .i64 o.made.len, (.slice Ao2 o.made.ops.length co2), .int .i64 o.made.fin, .int .i64 o.made.x, .int .i64 o.made.y, .int .i64 o.made.k] 54)) #[.int .i64 0, .int .i64 0, .slice none 0 0, .int .i64 0, .int .i64 0, .int .i64 0, .int .i64 0, .int .i64 0, .int .i64 0, .slice none 0 0, .int .i64 0, .int .i64 0, .int .i64 0, .int .i64 0] 54); simpa using this)
  have hFres_0 : ∀ oo, (((w.alloc (Obj.cells #[.int .i64 o.base.pc, .int .i64 o.base.len, (.slice Ao1 o.base.ops.length co1), .int .i64 o.base.fin, .int .i64 o.base.x, .int .i64 o.base.y, .int .i64 o.base.k, .int .i64 o.made.pc, .int .i64 o.made.len, (.slice Ao2 o.made.ops.length co2), .int .i64 o.made.fin, .int .i64 o.made.x, .int .i64 o.made.y, .int .i64 o.made.k] 54)).alloc (Obj.cells #[.int .i64 0, .int .i64 0, .slice none 0 0, .int .i64 0, .int .i64 0, .int .i64 0, .int .i64 0, .int .i64 0, .int .i64 0, .slice none 0 0, .int .i64 0, .int .i64 0, .int .i64 0, .int .i64 0] 54))).frozen? ⟨w.heap.size + 1, oo, none⟩ = false := fun oo => by simp
  generalize ((w.alloc (Obj.cells #[.int .i64 o.base.pc, .int .i64 o.base.len, (.slice Ao1 o.base.ops.length co1), .int .i64 o.base.fin, .int .i64 o.base.x, .int .i64 o.base.y, .int .i64 o.base.k, .int .i64 o.made.pc, .int .i64 o.made.len, (.slice Ao2 o.made.ops.length co2), .int .i64 o.made.fin, .int .i64 o.made.x, .int .i64 o.made.y, .int .i64 o.made.k] 54)).alloc (Obj.cells #[.int .i64 0, .int .i64 0, .slice none 0 0, .int .i64 0, .int .i64 0, .int .i64 0, .int .i64 0, .int .i64 0, .int .i64 0, .slice none 0 0, .int .i64 0, .int .i64 0, .int .i64 0, .int .i64 0] 54)) = w0 at *
  have yo : w.heap.size < w0.heap.size := by omega
  have xo0 : w0.cell? ⟨w.heap.size, 0, none⟩ = some (.int .i64 o.base.pc) := hBo_0 0 _ rfl
  have xo1 : w0.cell? ⟨w.heap.size, 1, none⟩ = some (.int .i64 o.base.len) := hBo_0 1 _ rfl
  have xo2 : w0.cell? ⟨w.heap.size, 2, none⟩ = some ((.slice Ao1 o.base.ops.length co1)) := hBo_0 2 _ rfl
  have xo3 : w0.cell? ⟨w.heap.size, 3, none⟩ = some (.int .i64 o.base.fin) := hBo_0 3 _ rfl
  have xo4 : w0.cell? ⟨w.heap.size, 4, none⟩ = some (.int .i64 o.base.x) := hBo_0 4 _ rfl
  have xo5 : w0.cell? ⟨w.heap.size, 5, none⟩ = some (.int .i64 o.base.y) := hBo_0 5 _ rfl
  have xo6 : w0.cell? ⟨w.heap.size, 6, none⟩ = some (.int .i64 o.base.k) := hBo_0 6 _ rfl
  have xo7 : w0.cell? ⟨w.heap.size, 7, none⟩ = some (.int .i64 o.made.pc) := hBo_0 7 _ rfl
  have xo8 : w0.cell? ⟨w.heap.size, 8, none⟩ = some (.int .i64 o.made.len) := hBo_0 8 _ rfl
  have xo9 : w0.cell? ⟨w.heap.size, 9, none⟩ = some ((.slice Ao2 o.made.ops.length co2)) := hBo_0 9 _ rfl
  have xo10 : w0.cell? ⟨w.heap.size, 10, none⟩ = some (.int .i64 o.made.fin) := hBo_0 10 _ rfl
  have xo11 : w0.cell? ⟨w.heap.size, 11, none⟩ = some (.int .i64 o.made.x) := hBo_0 11 _ rfl
  have xo12 : w0.cell? ⟨w.heap.size, 12, none⟩ = some (.int .i64 o.made.y) := hBo_0 12 _ rfl
  have xo13 : w0.cell? ⟨w.heap.size, 13, none⟩ = some (.int .i64 o.made.k) := hBo_0 13 _ rfl
  go_wp2_with fail
  have hS : ∀ w', Ext w0 w' → ∀ bb oo, bb < w0.heap.size → w'.cell? ⟨bb, oo, none⟩ = w0.cell? ⟨bb, oo, none⟩ := fun w' hx bb oo hb => hx.cell hb
  refine wp_region_plan (fun w' => Ext w0 w') 5 (.float 0 (.float 1 (.float 3 (.float 4 (.chain 2 (.tail 5)))))) (by kernel_rfl) (by kernel_rfl) (Ext.refl _).drew ?_
  (refine Plan.float_step (v := ?_) rfl (by rfl) (fun _ _ _ h => h) (fun w' hSw => ?_) ?_; rotate_left; · (go_simp; try with_reducible rfl)); (try simp only [Act.put, List.setIfInBounds_toArray, List.set_cons_zero, List.set_cons_succ])
  (refine Plan.float_step (v := ?_) rfl (by rfl) (fun _ _ _ h => h) (fun w' hSw => ?_) ?_; rotate_left; · (go_simp; try with_reducible rfl)); (try simp only [Act.put, List.setIfInBounds_toArray, List.set_cons_zero, List.set_cons_succ])
  (refine Plan.float_step (v := ?_) rfl (by rfl) (fun _ _ _ h => h) (fun w' hSw => ?_) ?_; rotate_left; · (go_simp; try with_reducible rfl)); (try simp only [Act.put, List.setIfInBounds_toArray, List.set_cons_zero, List.set_cons_succ])
  (refine Plan.float_step (v := ?_) rfl (by rfl) (fun _ _ _ h => h) (fun w' hSw => ?_) ?_; rotate_left; · (go_simp; try with_reducible rfl)); (try simp only [Act.put, List.setIfInBounds_toArray, List.set_cons_zero, List.set_cons_succ])
  refine Plan.chain_step rfl (fun K hK => ?_)
  go_simp
  refine (cloneBlock_any o.base _ _ (ho1.ext (Ext.trans he0 (by (repeat' (first | (with_reducible exact Ext.refl _) | (with_reducible apply Ext.alloc) | (with_reducible apply Ext.drewN) | (with_reducible apply Ext.drew) | (with_reducible refine Ext.setCell ?_ ?_ _))); all_goals (first | (simp; done) | (simp; omega) | omega)))) hn1).mono ?_
  rintro e w1 ⟨r1, F1, rfl, hr1, hf1, hy⟩
  refine hK.out _ _ (Ext.trans (by (repeat' (first | (with_reducible exact Ext.refl _) | (with_reducible apply Ext.alloc) | (with_reducible apply Ext.drewN) | (with_reducible apply Ext.drew) | (with_reducible refine Ext.setCell ?_ ?_ _))); all_goals (first | (simp; done) | (simp; omega) | omega)) hy) ?_
  clear hK
  (try simp only [Act.put, List.setIfInBounds_toArray, List.set_cons_zero, List.set_cons_succ])
  have hx1 : Ext w0 w1 := Ext.trans (by (repeat' (first | (with_reducible exact Ext.refl _) | (with_reducible apply Ext.alloc) | (with_reducible apply Ext.drewN) | (with_reducible apply Ext.drew) | (with_reducible refine Ext.setCell ?_ ?_ _))); all_goals (first | (simp; done) | (simp; omega) | omega)) hy
  have hs1 := hx1.size
  have he1 : Ext w w1 := he0.trans hx1
  have hBo_1 : Bx w1 (w.heap.size) [.int .i64 o.base.pc, .int .i64 o.base.len, (.slice Ao1 o.base.ops.length co1), .int .i64 o.base.fin, .int .i64 o.base.x, .int .i64 o.base.y, .int .i64 o.base.k, .int .i64 o.made.pc, .int .i64 o.made.len, (.slice Ao2 o.made.ops.length co2), .int .i64 o.made.fin, .int .i64 o.made.x, .int .i64 o.made.y, .int .i64 o.made.k] := hx1.bx hBo_0 (by omega)
  have hFo_1 : ∀ oo, w1.frozen? ⟨w.heap.size, oo, none⟩ = false := fun oo => (hx1.frozen (by omega)).trans (hFo_0 oo)
  have hBres_1 : Bx w1 (w.heap.size + 1) [.int .i64 0, .int .i64 0, .slice none 0 0, .int .i64 0, .int .i64 0, .int .i64 0, .int .i64 0, .int .i64 0, .int .i64 0, .slice none 0 0, .int .i64 0, .int .i64 0, .int .i64 0, .int .i64 0] := hx1.bx hBres_0 (by omega)
  have hFres_1 : ∀ oo, w1.frozen? ⟨w.heap.size + 1, oo, none⟩ = false := fun oo => (hx1.frozen (by omega)).trans (hFres_0 oo)
  clear hBo_0 hFo_0 hBres_0 hFres_0
  clear hy
  refine Plan.tail_step ?_
  simp only [List.drop_succ_cons, List.drop_zero]
  clear hS
  clear xo0 xo1 xo2 xo3 xo4 xo5 xo6 xo7 xo8 xo9 xo10 xo11 xo12 xo13 yo
  go_wp2_with fail
  refine (cloneBlock_any o.made _ _ (ho2.ext he1) hn2).mono ?_
  rintro e w2 ⟨r2, F2, rfl, hr2, hf2, hy⟩
  have hx2 : Ext w1 w2 := Ext.trans (by (repeat' (first | (with_reducible exact Ext.refl _) | (with_reducible apply Ext.alloc) | (with_reducible apply Ext.drewN) | (with_reducible apply Ext.drew) | (with_reducible refine Ext.setCell ?_ ?_ _))); all_goals (first | (simp; done) | (simp; omega) | omega)) hy
  have hs2 := hx2.size
  have he2 : Ext w w2 := he1.trans hx2
  have hBo_2 : Bx w2 (w.heap.size) [.int .i64 o.base.pc, .int .i64 o.base.len, (.slice Ao1 o.base.ops.length co1), .int .i64 o.base.fin, .int .i64 o.base.x, .int .i64 o.base.y, .int .i64 o.base.k, .int .i64 o.made.pc, .int .i64 o.made.len, (.slice Ao2 o.made.ops.length co2), .int .i64 o.made.fin, .int .i64 o.made.x, .int .i64 o.made.y, .int .i64 o.made.k] := hx2.bx hBo_1 (by omega)
  have hFo_2 : ∀ oo, w2.frozen? ⟨w.heap.size, oo, none⟩ = false := fun oo => (hx2.frozen (by omega)).trans (hFo_1 oo)
  have hBres_2 : Bx w2 (w.heap.size + 1) [.int .i64 0, .int .i64 0, .slice none 0 0, .int .i64 0, .int .i64 0, .int .i64 0, .int .i64 0, .int .i64 0, .int .i64 0, .slice none 0 0, .int .i64 0, .int .i64 0, .int .i64 0, .int .i64 0] := hx2.bx hBres_1 (by omega)
  have hFres_2 : ∀ oo, w2.frozen? ⟨w.heap.size + 1, oo, none⟩ = false := fun oo => (hx2.frozen (by omega)).trans (hFres_1 oo)
  clear hBo_1 hFo_1 hBres_1 hFres_1
  clear hy
  obtain ⟨B1, d1, rfl, -, -⟩ := hr1.sl.form
  obtain ⟨B2, d2, rfl, -, -⟩ := hr2.sl.form
  have yres : w.heap.size + 1 < w2.heap.size := by omega
  have xres0 : w2.cell? ⟨w.heap.size + 1, 0, none⟩ = some (.int .i64 0) := hBres_2 0 _ rfl
  have xres1 : w2.cell? ⟨w.heap.size + 1, 1, none⟩ = some (.int .i64 0) := hBres_2 1 _ rfl
  have xres2 : w2.cell? ⟨w.heap.size + 1, 2, none⟩ = some (.slice none 0 0) := hBres_2 2 _ rfl
  have xres3 : w2.cell? ⟨w.heap.size + 1, 3, none⟩ = some (.int .i64 0) := hBres_2 3 _ rfl
  have xres4 : w2.cell? ⟨w.heap.size + 1, 4, none⟩ = some (.int .i64 0) := hBres_2 4 _ rfl
  have xres5 : w2.cell? ⟨w.heap.size + 1, 5, none⟩ = some (.int .i64 0) := hBres_2 5 _ rfl
  have xres6 : w2.cell? ⟨w.heap.size + 1, 6, none⟩ = some (.int .i64 0) := hBres_2 6 _ rfl
  have xres7 : w2.cell? ⟨w.heap.size + 1, 7, none⟩ = some (.int .i64 0) := hBres_2 7 _ rfl
  have xres8 : w2.cell? ⟨w.heap.size + 1, 8, none⟩ = some (.int .i64 0) := hBres_2 8 _ rfl
  have xres9 : w2.cell? ⟨w.heap.size + 1, 9, none⟩ = some (.slice none 0 0) := hBres_2 9 _ rfl
  have xres10 : w2.cell? ⟨w.heap.size + 1, 10, none⟩ = some (.int .i64 0) := hBres_2 10 _ rfl
  have xres11 : w2.cell? ⟨w.heap.size + 1, 11, none⟩ = some (.int .i64 0) := hBres_2 11 _ rfl
  have xres12 : w2.cell? ⟨w.heap.size + 1, 12, none⟩ = some (.int .i64 0) := hBres_2 12 _ rfl
  have xres13 : w2.cell? ⟨w.heap.size + 1, 13, none⟩ = some (.int .i64 0) := hBres_2 13 _ rfl
  have fres := hFres_2
  go_wp2
  refine bodyPost_ret (v := .agg #[.int .i64 o.base.pc, .int .i64 o.base.len, (.slice B1 o.base.ops.length d1), .int .i64 o.base.fin, .int .i64 o.base.x, .int .i64 o.base.y, .int .i64 o.base.k, .int .i64 o.made.pc, .int .i64 o.made.len, (.slice B2 o.made.ops.length d2), .int .i64 o.made.fin, .int .i64 o.made.x, .int .i64 o.made.y, .int .i64 o.made.k]) (by simp [results, Try.results135, go_sem, xres0, xres1, xres2, xres3, xres4, xres5, xres6, xres7, xres8, xres9, xres10, xres11, xres12, xres13]) rfl ⟨_, _, F1, F2, rfl, ?_, ?_, ?_, ?_⟩
  · exact OwnSl.stay hr1 (fun b hb => by
      have q := hf1.2 b hb; have q1 := q.1; have q2 := q.2; (try simp at q1 q2)
      repeat (first | rw [heap_set _ _ _ _ (by simp; omega)] | rw [Ext.heap hx2 (by omega)]))
  · exact OwnSl.stay hr2 (fun b hb => by
      have q := hf2.2 b hb; have q1 := q.1; have q2 := q.2; (try simp at q1 q2)
      repeat (first | rw [heap_set _ _ _ _ (by simp; omega)] | rw [Ext.heap (Ext.refl _) (by omega)]))
  · exact Fr.mk2 hf1 hf2 (by first | omega | (simp; done) | (simp; omega)) (by first | omega | (simp; done) | (simp; omega)) (by first | omega | (simp; done) | (simp; omega)) (by first | omega | (simp; done) | (simp; omega)) (by first | omega | (simp; done) | (simp; omega))
  · exact (by (repeat' (first | (with_reducible exact Ext.refl _) | (with_reducible exact he2) | (with_reducible apply Ext.alloc) | (with_reducible apply Ext.drewN) | (with_reducible apply Ext.drew) | (with_reducible refine Ext.setCell ?_ ?_ _))); all_goals (first | (simp; done) | (simp; omega) | omega))

set_option maxHeartbeats 4000000 in
theorem l12Pair_any (o : CerPair) (vo1 vo2 : Value) (w : World) (ho1 : Sl w (Old w) vo1 o.base.ops) (ho2 : Sl w (Old w) vo2 o.made.ops) (hn1 : o.base.ops.length ≤ 4194304) (hn2 : o.made.ops.length ≤ 4194304) :
    Calls Try.prog 92 #[.agg #[.int .i64 o.base.pc, .int .i64 o.base.len, vo1, .int .i64 o.base.fin, .int .i64 o.base.x, .int .i64 o.base.y, .int .i64 o.base.k, .int .i64 o.made.pc, .int .i64 o.made.len, vo2, .int .i64 o.made.fin, .int .i64 o.made.x, .int .i64 o.made.y, .int .i64 o.made.k]] w fun e w' => ∃ (r1 r2 : Value) (F1 F2 : List Nat), e = .returned (.agg #[.int .i64 o.base.pc, .int .i64 o.base.len, r1, .int .i64 o.base.fin, .int .i64 o.base.x, .int .i64 o.base.y, .int .i64 o.base.k, .int .i64 o.made.pc, .int .i64 o.made.len, r2, .int .i64 o.made.fin, .int .i64 o.made.x, .int .i64 o.made.y, .int .i64 o.made.k]) ∧ OwnSl w' r1 o.base.ops F1 ∧ OwnSl w' r2 o.made.ops F2 ∧ Fr w w' (F1 ++ F2) ∧ Ext w w' := by
  obtain ⟨Ao1, co1, rfl, hlo1, hmo1⟩ := ho1.form
  obtain ⟨Ao2, co2, rfl, hlo2, hmo2⟩ := ho2.form
  go_enter Try.func92, Try.ntmps92
  go_wp2_with fail
  have he0 : Ext w ((w.alloc (Obj.cells #[.int .i64 o.base.pc, .int .i64 o.base.len, (.slice Ao1 o.base.ops.length co1), .int .i64 o.base.fin, .int .i64 o.base.x, .int .i64 o.base.y, .int .i64 o.base.k, .int .i64 o.made.pc, .int .i64 o.made.len, (.slice Ao2 o.made.ops.length co2), .int .i64 o.made.fin, .int .i64 o.made.x, .int .i64 o.made.y, .int .i64 o.made.k] 54)).alloc (Obj.cells #[.int .i64 0, .int .i64 0, .slice none 0 0, .int .i64 0, .int .i64 0, .int .i64 0, .int .i64 0, .int .i64 0, .int .i64 0, .slice none 0 0, .int .i64 0, .int .i64 0, .int .i64 0, .int .i64 0] 54)) := (by (repeat' (first | (with_reducible exact Ext.refl _) | (with_reducible apply Ext.alloc) | (with_reducible apply Ext.drewN) | (with_reducible apply Ext.drew) | (with_reducible refine Ext.setCell ?_ ?_ _))); all_goals (first | (simp; done) | (simp; omega) | omega))
  have hs0 : w.heap.size + 2 ≤ (((w.alloc (Obj.cells #[.int .i64 o.base.pc, .int .i64 o.base.len, (.slice Ao1 o.base.ops.length co1), .int .i64 o.base.fin, .int .i64 o.base.x, .int .i64 o.base.y, .int .i64 o.base.k, .int .i64 o.made.pc, .int .i64 o.made.len, (.slice Ao2 o.made.ops.length co2), .int .i64 o.made.fin, .int .i64 o.made.x, .int .i64 o.made.y, .int .i64 o.made.k] 54)).alloc (Obj.cells #[.int .i64 0, .int .i64 0, .slice none 0 0, .int .i64 0, .int .i64 0, .int .i64 0, .int .i64 0, .int .i64 0, .int .i64 0, .slice none 0 0, .int .i64 0, .int .i64 0, .int .i64 0, .int .i64 0] 54))).heap.size := by simp
  have hBo_0 : Bx ((w.alloc (Obj.cells #[.int .i64 o.base.pc, .int .i64 o.base.len, (.slice Ao1 o.base.ops.length co1), .int .i64 o.base.fin, .int .i64 o.base.x, .int .i64 o.base.y, .int .i64 o.base.k, .int .i64 o.made.pc, .int .i64 o.made.len, (.slice Ao2 o.made.ops.length co2), .int .i64 o.made.fin, .int .i64 o.made.x, .int .i64 o.made.y, .int .i64 o.made.k] 54)).alloc (Obj.cells #[.int .i64 0, .int .i64 0, .slice none 0 0, .int .i64 0, .int .i64 0, .int .i64 0, .int .i64 0, .int .i64 0, .int .i64 0, .slice none 0 0, .int .i64 0, .int .i64 0, .int .i64 0, .int .i64 0] 54)) (w.heap.size) [.int .i64 o.base.pc, .int .i64 o.base.len, (.slice Ao1 o.base.ops.length co1), .int .i64 o.base.fin, .int .i64 o.base.x, .int .i64 o.base.y, .int .i64 o.base.k, .int .i64 o.made.pc, .int .i64 o.made.len, (.slice Ao2 o.made.ops.length co2), .int .i64 o.made.fin, .int .i64 o.made.x, .int .i64 o.made.y, .int .i64 o.made.k] := (by have := (Bx.alloc (Bx.new w #[.int .i64 o.base.pc, .int .i64 o.base.len, (.slice Ao1 o.base.ops.length co1), .int .i64 o.base.fin, .int .i64 o.base.x, .int .i64 o.base.y, .int .i64 o.base.k, .int .i64 o.made.pc, .int .i64 o.made.len, (.slice Ao2 o.made.ops.length co2), .int .i64 o.made.fin, .int .i64 o.made.x, .int .i64 o.made.y, .int .i64 o.made.k] 54) (by simp) #[.int .i64 0, .int .i64 0, .slice none 0 0, .int .i64 0, .int .i64 0, .int .i64 0, .int .i64 0, .int .i64 0, .int .i64 0, .slice none 0 0, .int .i64 0, .int .i64 0, .int .i64 0, .int .i64 0] 54); simpa using this)
  have hFo_0 : ∀ oo, (((w.alloc (Obj.cells #[.int .i64 o.base.pc, .int .i64 o.base.len, (.slice Ao1 o.base.ops.length co1), .int .i64 o.base.fin, .int .i64 o.base.x, .int .i64 o.base.y, .int .i64 o.base.k, .int .i64 o.made.pc, .int .i64 o.made.len, (.slice Ao2 o.made.ops.length co2), .int .i64 o.made.fin, .int .i64 o.made.x, .int .i64 o.made.y, .int .i64 o.made.k] 54)).alloc (Obj.cells #[.int .i64 0, .int .i64 0, .slice none 0 0, .int .i64 0, .int .i64 0, .int .i64 0, .int .i64 0, .int .i64 0, .int .i64 0, .slice none 0 0, .int .i64 0, .int .i64 0, .int .i64 0, .int .i64 0] 54))).frozen? ⟨w.heap.size, oo, none⟩ = false := fun oo => by simp
  have hBres_0 : Bx ((w.alloc (Obj.cells #[.int .i64 o.base.pc, .int .i64 o.base.len, (.slice Ao1 o.base.ops.length co1), .int .i64 o.base.fin, .int .i64 o.base.x, .int .i64 o.base.y, .int .i64 o.base.k, .int .i64 o.made.pc, .int .i64 o.made.len, (.slice Ao2 o.made.ops.length co2), .int .i64 o.made.fin, .int .i64 o.made.x, .int .i64 o.made.y, .int .i64 o.made.k] 54)).alloc (Obj.cells #[.int .i64 0, .int .i64 0, .slice none 0 0, .int .i64 0, .int .i64 0, .int .i64 0, .int .i64 0, .int .i64 0, .int .i64 0, .slice none 0 0, .int .i64 0, .int .i64 0, .int .i64 0, .int .i64 0] 54)) (w.heap.size + 1) [.int .i64 0, .int .i64 0, .slice none 0 0, .int .i64 0, .int .i64 0, .int .i64 0, .int .i64 0, .int .i64 0, .int .i64 0, .slice none 0 0, .int .i64 0, .int .i64 0, .int .i64 0, .int .i64 0] := (by have := (Bx.new (w.alloc (Obj.cells #[.int .i64 o.base.pc, .int .i64 o.base.len, (.slice Ao1 o.base.ops.length co1), .int .i64 o.base.fin, .int .i64 o.base.x, .int .i64 o.base.y, .int .i64 o.base.k, .int .i64 o.made.pc, .int .i64 o.made.len, (.slice Ao2 o.made.ops.length co2), .int .i64 o.made.fin, .int .i64 o.made.x, .int .i64 o.made.y, .int .i64 o.made.k] 54)) #[.int .i64 0, .int .i64 0, .slice none 0 0, .int .i64 0, .int .i64 0, .int .i64 0, .int .i64 0, .int .i64 0, .int .i64 0, .slice none 0 0, .int .i64 0, .int .i64 0, .int .i64 0, .int .i64 0] 54); simpa using this)
  have hFres_0 : ∀ oo, (((w.alloc (Obj.cells #[.int .i64 o.base.pc, .int .i64 o.base.len, (.slice Ao1 o.base.ops.length co1), .int .i64 o.base.fin, .int .i64 o.base.x, .int .i64 o.base.y, .int .i64 o.base.k, .int .i64 o.made.pc, .int .i64 o.made.len, (.slice Ao2 o.made.ops.length co2), .int .i64 o.made.fin, .int .i64 o.made.x, .int .i64 o.made.y, .int .i64 o.made.k] 54)).alloc (Obj.cells #[.int .i64 0, .int .i64 0, .slice none 0 0, .int .i64 0, .int .i64 0, .int .i64 0, .int .i64 0, .int .i64 0, .int .i64 0, .slice none 0 0, .int .i64 0, .int .i64 0, .int .i64 0, .int .i64 0] 54))).frozen? ⟨w.heap.size + 1, oo, none⟩ = false := fun oo => by simp
  generalize ((w.alloc (Obj.cells #[.int .i64 o.base.pc, .int .i64 o.base.len, (.slice Ao1 o.base.ops.length co1), .int .i64 o.base.fin, .int .i64 o.base.x, .int .i64 o.base.y, .int .i64 o.base.k, .int .i64 o.made.pc, .int .i64 o.made.len, (.slice Ao2 o.made.ops.length co2), .int .i64 o.made.fin, .int .i64 o.made.x, .int .i64 o.made.y, .int .i64 o.made.k] 54)).alloc (Obj.cells #[.int .i64 0, .int .i64 0, .slice none 0 0, .int .i64 0, .int .i64 0, .int .i64 0, .int .i64 0, .int .i64 0, .int .i64 0, .slice none 0 0, .int .i64 0, .int .i64 0, .int .i64 0, .int .i64 0] 54)) = w0 at *
  have yo : w.heap.size < w0.heap.size := by omega
  have xo0 : w0.cell? ⟨w.heap.size, 0, none⟩ = some (.int .i64 o.base.pc) := hBo_0 0 _ rfl
  have xo1 : w0.cell? ⟨w.heap.size, 1, none⟩ = some (.int .i64 o.base.len) := hBo_0 1 _ rfl
  have xo2 : w0.cell? ⟨w.heap.size, 2, none⟩ = some ((.slice Ao1 o.base.ops.length co1)) := hBo_0 2 _ rfl
  have xo3 : w0.cell? ⟨w.heap.size, 3, none⟩ = some (.int .i64 o.base.fin) := hBo_0 3 _ rfl
  have xo4 : w0.cell? ⟨w.heap.size, 4, none⟩ = some (.int .i64 o.base.x) := hBo_0 4 _ rfl
  have xo5 : w0.cell? ⟨w.heap.size, 5, none⟩ = some (.int .i64 o.base.y) := hBo_0 5 _ rfl
  have xo6 : w0.cell? ⟨w.heap.size, 6, none⟩ = some (.int .i64 o.base.k) := hBo_0 6 _ rfl
  have xo7 : w0.cell? ⟨w.heap.size, 7, none⟩ = some (.int .i64 o.made.pc) := hBo_0 7 _ rfl
  have xo8 : w0.cell? ⟨w.heap.size, 8, none⟩ = some (.int .i64 o.made.len) := hBo_0 8 _ rfl
  have xo9 : w0.cell? ⟨w.heap.size, 9, none⟩ = some ((.slice Ao2 o.made.ops.length co2)) := hBo_0 9 _ rfl
  have xo10 : w0.cell? ⟨w.heap.size, 10, none⟩ = some (.int .i64 o.made.fin) := hBo_0 10 _ rfl
  have xo11 : w0.cell? ⟨w.heap.size, 11, none⟩ = some (.int .i64 o.made.x) := hBo_0 11 _ rfl
  have xo12 : w0.cell? ⟨w.heap.size, 12, none⟩ = some (.int .i64 o.made.y) := hBo_0 12 _ rfl
  have xo13 : w0.cell? ⟨w.heap.size, 13, none⟩ = some (.int .i64 o.made.k) := hBo_0 13 _ rfl
  go_wp2_with fail
  have hS : ∀ w', Ext w0 w' → ∀ bb oo, bb < w0.heap.size → w'.cell? ⟨bb, oo, none⟩ = w0.cell? ⟨bb, oo, none⟩ := fun w' hx bb oo hb => hx.cell hb
  refine wp_region_plan (fun w' => Ext w0 w') 5 (.float 0 (.float 1 (.float 3 (.float 4 (.chain 2 (.tail 5)))))) (by kernel_rfl) (by kernel_rfl) (Ext.refl _).drew ?_
  (refine Plan.float_step (v := ?_) rfl (by rfl) (fun _ _ _ h => h) (fun w' hSw => ?_) ?_; rotate_left; · (go_simp; try with_reducible rfl)); (try simp only [Act.put, List.setIfInBounds_toArray, List.set_cons_zero, List.set_cons_succ])
  (refine Plan.float_step (v := ?_) rfl (by rfl) (fun _ _ _ h => h) (fun w' hSw => ?_) ?_; rotate_left; · (go_simp; try with_reducible rfl)); (try simp only [Act.put, List.setIfInBounds_toArray, List.set_cons_zero, List.set_cons_succ])
  (refine Plan.float_step (v := ?_) rfl (by rfl) (fun _ _ _ h => h) (fun w' hSw => ?_) ?_; rotate_left; · (go_simp; try with_reducible rfl)); (try simp only [Act.put, List.setIfInBounds_toArray, List.set_cons_zero, List.set_cons_succ])
  (refine Plan.float_step (v := ?_) rfl (by rfl) (fun _ _ _ h => h) (fun w' hSw => ?_) ?_; rotate_left; · (go_simp; try with_reducible rfl)); (try simp only [Act.put, List.setIfInBounds_toArray, List.set_cons_zero, List.set_cons_succ])
  refine Plan.chain_step rfl (fun K hK => ?_)
  go_simp
  refine (l6Copy_any o.base _ _ (ho1.ext (Ext.trans he0 (by (repeat' (first | (with_reducible exact Ext.refl _) | (with_reducible apply Ext.alloc) | (with_reducible apply Ext.drewN) | (with_reducible apply Ext.drew) | (with_reducible refine Ext.setCell ?_ ?_ _))); all_goals (first | (simp; done) | (simp; omega) | omega)))) hn1).mono ?_
  rintro e w1 ⟨r1, F1, rfl, hr1, hf1, hy⟩
  refine hK.out _ _ (Ext.trans (by (repeat' (first | (with_reducible exact Ext.refl _) | (with_reducible apply Ext.alloc) | (with_reducible apply Ext.drewN) | (with_reducible apply Ext.drew) | (with_reducible refine Ext.setCell ?_ ?_ _))); all_goals (first | (simp; done) | (simp; omega) | omega)) hy) ?_
  clear hK
  (try simp only [Act.put, List.setIfInBounds_toArray, List.set_cons_zero, List.set_cons_succ])
  have hx1 : Ext w0 w1 := Ext.trans (by (repeat' (first | (with_reducible exact Ext.refl _) | (with_reducible apply Ext.alloc) | (with_reducible apply Ext.drewN) | (with_reducible apply Ext.drew) | (with_reducible refine Ext.setCell ?_ ?_ _))); all_goals (first | (simp; done) | (simp; omega) | omega)) hy
  have hs1 := hx1.size
  have he1 : Ext w w1 := he0.trans hx1
  have hBo_1 : Bx w1 (w.heap.size) [.int .i64 o.base.pc, .int .i64 o.base.len, (.slice Ao1 o.base.ops.length co1), .int .i64 o.base.fin, .int .i64 o.base.x, .int .i64 o.base.y, .int .i64 o.base.k, .int .i64 o.made.pc, .int .i64 o.made.len, (.slice Ao2 o.made.ops.length co2), .int .i64 o.made.fin, .int .i64 o.made.x, .int .i64 o.made.y, .int .i64 o.made.k] := hx1.bx hBo_0 (by omega)
  have hFo_1 : ∀ oo, w1.frozen? ⟨w.heap.size, oo, none⟩ = false := fun oo => (hx1.frozen (by omega)).trans (hFo_0 oo)
  have hBres_1 : Bx w1 (w.heap.size + 1) [.int .i64 0, .int .i64 0, .slice none 0 0, .int .i64 0, .int .i64 0, .int .i64 0, .int .i64 0, .int .i64 0, .int .i64 0, .slice none 0 0, .int .i64 0, .int .i64 0, .int .i64 0, .int .i64 0] := hx1.bx hBres_0 (by omega)
  have hFres_1 : ∀ oo, w1.frozen? ⟨w.heap.size + 1, oo, none⟩ = false := fun oo => (hx1.frozen (by omega)).trans (hFres_0 oo)
  clear hBo_0 hFo_0 hBres_0 hFres_0
  clear hy
  refine Plan.tail_step ?_
  simp only [List.drop_succ_cons, List.drop_zero]
  clear hS
  clear xo0 xo1 xo2 xo3 xo4 xo5 xo6 xo7 xo8 xo9 xo10 xo11 xo12 xo13 yo
  go_wp2_with fail
  refine (l6Copy_any o.made _ _ (ho2.ext he1) hn2).mono ?_
  rintro e w2 ⟨r2, F2, rfl, hr2, hf2, hy⟩
  have hx2 : Ext w1 w2 := Ext.trans (by (repeat' (first | (with_reducible exact Ext.refl _) | (with_reducible apply Ext.alloc) | (with_reducible apply Ext.drewN) | (with_reducible apply Ext.drew) | (with_reducible refine Ext.setCell ?_ ?_ _))); all_goals (first | (simp; done) | (simp; omega) | omega)) hy
  have hs2 := hx2.size
  have he2 : Ext w w2 := he1.trans hx2
  have hBo_2 : Bx w2 (w.heap.size) [.int .i64 o.base.pc, .int .i64 o.base.len, (.slice Ao1 o.base.ops.length co1), .int .i64 o.base.fin, .int .i64 o.base.x, .int .i64 o.base.y, .int .i64 o.base.k, .int .i64 o.made.pc, .int .i64 o.made.len, (.slice Ao2 o.made.ops.length co2), .int .i64 o.made.fin, .int .i64 o.made.x, .int .i64 o.made.y, .int .i64 o.made.k] := hx2.bx hBo_1 (by omega)
  have hFo_2 : ∀ oo, w2.frozen? ⟨w.heap.size, oo, none⟩ = false := fun oo => (hx2.frozen (by omega)).trans (hFo_1 oo)
  have hBres_2 : Bx w2 (w.heap.size + 1) [.int .i64 0, .int .i64 0, .slice none 0 0, .int .i64 0, .int .i64 0, .int .i64 0, .int .i64 0, .int .i64 0, .int .i64 0, .slice none 0 0, .int .i64 0, .int .i64 0, .int .i64 0, .int .i64 0] := hx2.bx hBres_1 (by omega)
  have hFres_2 : ∀ oo, w2.frozen? ⟨w.heap.size + 1, oo, none⟩ = false := fun oo => (hx2.frozen (by omega)).trans (hFres_1 oo)
  clear hBo_1 hFo_1 hBres_1 hFres_1
  clear hy
  obtain ⟨B1, d1, rfl, -, -⟩ := hr1.sl.form
  obtain ⟨B2, d2, rfl, -, -⟩ := hr2.sl.form
  have yres : w.heap.size + 1 < w2.heap.size := by omega
  have xres0 : w2.cell? ⟨w.heap.size + 1, 0, none⟩ = some (.int .i64 0) := hBres_2 0 _ rfl
  have xres1 : w2.cell? ⟨w.heap.size + 1, 1, none⟩ = some (.int .i64 0) := hBres_2 1 _ rfl
  have xres2 : w2.cell? ⟨w.heap.size + 1, 2, none⟩ = some (.slice none 0 0) := hBres_2 2 _ rfl
  have xres3 : w2.cell? ⟨w.heap.size + 1, 3, none⟩ = some (.int .i64 0) := hBres_2 3 _ rfl
  have xres4 : w2.cell? ⟨w.heap.size + 1, 4, none⟩ = some (.int .i64 0) := hBres_2 4 _ rfl
  have xres5 : w2.cell? ⟨w.heap.size + 1, 5, none⟩ = some (.int .i64 0) := hBres_2 5 _ rfl
  have xres6 : w2.cell? ⟨w.heap.size + 1, 6, none⟩ = some (.int .i64 0) := hBres_2 6 _ rfl
  have xres7 : w2.cell? ⟨w.heap.size + 1, 7, none⟩ = some (.int .i64 0) := hBres_2 7 _ rfl
  have xres8 : w2.cell? ⟨w.heap.size + 1, 8, none⟩ = some (.int .i64 0) := hBres_2 8 _ rfl
  have xres9 : w2.cell? ⟨w.heap.size + 1, 9, none⟩ = some (.slice none 0 0) := hBres_2 9 _ rfl
  have xres10 : w2.cell? ⟨w.heap.size + 1, 10, none⟩ = some (.int .i64 0) := hBres_2 10 _ rfl
  have xres11 : w2.cell? ⟨w.heap.size + 1, 11, none⟩ = some (.int .i64 0) := hBres_2 11 _ rfl
  have xres12 : w2.cell? ⟨w.heap.size + 1, 12, none⟩ = some (.int .i64 0) := hBres_2 12 _ rfl
  have xres13 : w2.cell? ⟨w.heap.size + 1, 13, none⟩ = some (.int .i64 0) := hBres_2 13 _ rfl
  have fres := hFres_2
  go_wp2
  refine bodyPost_ret (v := .agg #[.int .i64 o.base.pc, .int .i64 o.base.len, (.slice B1 o.base.ops.length d1), .int .i64 o.base.fin, .int .i64 o.base.x, .int .i64 o.base.y, .int .i64 o.base.k, .int .i64 o.made.pc, .int .i64 o.made.len, (.slice B2 o.made.ops.length d2), .int .i64 o.made.fin, .int .i64 o.made.x, .int .i64 o.made.y, .int .i64 o.made.k]) (by simp [results, Try.results92, go_sem, xres0, xres1, xres2, xres3, xres4, xres5, xres6, xres7, xres8, xres9, xres10, xres11, xres12, xres13]) rfl ⟨_, _, F1, F2, rfl, ?_, ?_, ?_, ?_⟩
  · exact OwnSl.stay hr1 (fun b hb => by
      have q := hf1.2 b hb; have q1 := q.1; have q2 := q.2; (try simp at q1 q2)
      repeat (first | rw [heap_set _ _ _ _ (by simp; omega)] | rw [Ext.heap hx2 (by omega)]))
  · exact OwnSl.stay hr2 (fun b hb => by
      have q := hf2.2 b hb; have q1 := q.1; have q2 := q.2; (try simp at q1 q2)
      repeat (first | rw [heap_set _ _ _ _ (by simp; omega)] | rw [Ext.heap (Ext.refl _) (by omega)]))
  · exact Fr.mk2 hf1 hf2 (by first | omega | (simp; done) | (simp; omega)) (by first | omega | (simp; done) | (simp; omega)) (by first | omega | (simp; done) | (simp; omega)) (by first | omega | (simp; done) | (simp; omega)) (by first | omega | (simp; done) | (simp; omega))
  · exact (by (repeat' (first | (with_reducible exact Ext.refl _) | (with_reducible exact he2) | (with_reducible apply Ext.alloc) | (with_reducible apply Ext.drewN) | (with_reducible apply Ext.drew) | (with_reducible refine Ext.setCell ?_ ?_ _))); all_goals (first | (simp; done) | (simp; omega) | omega))

end Go.Proofs.Ytjemadbhpbbhlaa
