/-
  OptDead
-/
import Derived.Test.YteaacelfnkiboaaYUsedS
import Derived.Test.YteaacelfnkiboaaYDrop
import Derived.Test.YteaacelfnkiboaaYRegLib
import Derived.Test.YteaacelfnkiboaaYCertLib
namespace Go.Proofs.Yteaacelfnkiboaa
open Go.RowKit

set_option linter.unusedVariables false
set_option linter.unusedSimpArgs false
set_option maxRecDepth 100000

theorem optDead_eq {b : IrBlock} (h : irOkB b = true) : optDead b = dropB b (usedB b) := by unfold optDead; rw [if_pos h]
theorem optSets_eq {b : IrBlock} (h : irOkB b = true) : optSets b = dropB b (keptL b.ops) := by unfold optSets; rw [if_pos h]
theorem optUsed_eq {b : IrBlock} (h : irOkB b = true) : optUsed b = usedB b := by unfold optUsed; rw [if_pos h]
theorem optDead_no {b : IrBlock} (h : irOkB b = false) : optDead b = emptyBlock := by unfold optDead; rw [h]; rfl
theorem optSets_no {b : IrBlock} (h : irOkB b = false) : optSets b = emptyBlock := by unfold optSets; rw [h]; rfl
theorem optCopy_no {b : IrBlock} (h : irOkB b = false) : optCopy b = emptyBlock := by unfold optCopy; rw [h]; rfl
theorem optConst_no {b : IrBlock} (h : irOkB b = false) : optConst b = emptyBlock := by unfold optConst; rw [h]; rfl
theorem dropB_len {b : IrBlock} (ks : List Bool) : (dropB b ks).ops.length ≤ b.ops.length := by
  show ((keptTo b.ops ks b.ops.length).map _).length ≤ _
  rw [List.length_map]; exact keptTo_length _ _ _
theorem blk_ops (b : IrBlock) : Bulk.blk b = b.ops.length := by
  show Bulk.blk b.ops = _
  exact blk_flat b.ops (fun _ => rfl)
theorem blk_optDead (b : IrBlock) : Bulk.blk (optDead b) ≤ Bulk.blk b := by
  rw [blk_ops, blk_ops]
  cases h : irOkB b with
  | true => rw [optDead_eq h]; exact dropB_len _
  | false => rw [optDead_no h]; exact Nat.zero_le _
theorem blk_optSets (b : IrBlock) : Bulk.blk (optSets b) ≤ Bulk.blk b := by
  rw [blk_ops, blk_ops]
  cases h : irOkB b with
  | true => rw [optSets_eq h]; exact dropB_len _
  | false => rw [optSets_no h]; exact Nat.zero_le _

theorem dropDeadR_any (b : IrBlock) (v vk : Value) (w : World) (h : Sl w (Old w) v b.ops) (hkk : Sl w (Old w) vk (usedB b)) (hok : irOkB b = true) :
    Calls Try.prog 119 #[.agg #[.int .i64 b.pc, .int .i64 b.len, v, .int .i64 b.fin, .int .i64 b.x, .int .i64 b.y, .int .i64 b.k], vk] w fun e w' => ∃ r1 F, e = .returned (.agg #[.int .i64 ((optDead b).pc), .int .i64 ((optDead b).len), r1, .int .i64 ((optDead b).fin), .int .i64 ((optDead b).x), .int .i64 ((optDead b).y), .int .i64 ((optDead b).k)]) ∧ OwnSl w' r1 (optDead b).ops F ∧ Fr w w' F ∧ Ext w w' ∧ Room w.heap.size (Rep.sz IrOp) 58 w' r1 := by
  have q := l10DropR_any b (usedB b) v vk w h hkk hok (usedB_length b)
  rw [← optDead_eq hok] at q
  exact q

set_option maxHeartbeats 8000000 in
theorem specOptDeadR_any (b : IrBlock) (vb1 : Value) (w : World) (hb1 : Sl w (Old w) vb1 b.ops) (hkb : b.Ok) :
    Calls Try.prog 101 #[.agg #[.int .i64 b.pc, .int .i64 b.len, vb1, .int .i64 b.fin, .int .i64 b.x, .int .i64 b.y, .int .i64 b.k]] w fun e w' => ∃ r1 F, e = .returned (.agg #[.int .i64 ((optDead b).pc), .int .i64 ((optDead b).len), r1, .int .i64 ((optDead b).fin), .int .i64 ((optDead b).x), .int .i64 ((optDead b).y), .int .i64 ((optDead b).k)]) ∧ OwnSl w' r1 (optDead b).ops F ∧ Fr w w' F ∧ Ext w w' ∧ Room w.heap.size (Rep.sz IrOp) 58 w' r1 := by
  obtain ⟨Ab1, cb1, rfl, hlb1, hmb1⟩ := hb1.form
  go_enter Try.func101, Try.ntmps101
  go_wp2_with fail
  have he0 : Ext w ((w.alloc (Obj.cells #[.int .i64 b.pc, .int .i64 b.len, (.slice Ab1 b.ops.length cb1), .int .i64 b.fin, .int .i64 b.x, .int .i64 b.y, .int .i64 b.k] 25)).alloc (Obj.cells #[.int .i64 0, .int .i64 0, .slice none 0 0, .int .i64 0, .int .i64 0, .int .i64 0, .int .i64 0] 25)) := (Ext.auto)
  have hs0 : w.heap.size + 2 ≤ (((w.alloc (Obj.cells #[.int .i64 b.pc, .int .i64 b.len, (.slice Ab1 b.ops.length cb1), .int .i64 b.fin, .int .i64 b.x, .int .i64 b.y, .int .i64 b.k] 25)).alloc (Obj.cells #[.int .i64 0, .int .i64 0, .slice none 0 0, .int .i64 0, .int .i64 0, .int .i64 0, .int .i64 0] 25))).heap.size := by simp
  have hq0 := hide (show (((w.alloc (Obj.cells #[.int .i64 b.pc, .int .i64 b.len, (.slice Ab1 b.ops.length cb1), .int .i64 b.fin, .int .i64 b.x, .int .i64 b.y, .int .i64 b.k] 25)).alloc (Obj.cells #[.int .i64 0, .int .i64 0, .slice none 0 0, .int .i64 0, .int .i64 0, .int .i64 0, .int .i64 0] 25))).heap.size = w.heap.size + 2 by simp)
  have hBb_0 : Bx ((w.alloc (Obj.cells #[.int .i64 b.pc, .int .i64 b.len, (.slice Ab1 b.ops.length cb1), .int .i64 b.fin, .int .i64 b.x, .int .i64 b.y, .int .i64 b.k] 25)).alloc (Obj.cells #[.int .i64 0, .int .i64 0, .slice none 0 0, .int .i64 0, .int .i64 0, .int .i64 0, .int .i64 0] 25)) (w.heap.size) [.int .i64 b.pc, .int .i64 b.len, (.slice Ab1 b.ops.length cb1), .int .i64 b.fin, .int .i64 b.x, .int .i64 b.y, .int .i64 b.k] := (by have := (Bx.alloc (Bx.new w #[.int .i64 b.pc, .int .i64 b.len, (.slice Ab1 b.ops.length cb1), .int .i64 b.fin, .int .i64 b.x, .int .i64 b.y, .int .i64 b.k] 25) (by simp) #[.int .i64 0, .int .i64 0, .slice none 0 0, .int .i64 0, .int .i64 0, .int .i64 0, .int .i64 0] 25); simpa using this)
  have hFb_0 : ∀ oo, (((w.alloc (Obj.cells #[.int .i64 b.pc, .int .i64 b.len, (.slice Ab1 b.ops.length cb1), .int .i64 b.fin, .int .i64 b.x, .int .i64 b.y, .int .i64 b.k] 25)).alloc (Obj.cells #[.int .i64 0, .int .i64 0, .slice none 0 0, .int .i64 0, .int .i64 0, .int .i64 0, .int .i64 0] 25))).frozen? ⟨w.heap.size, oo, none⟩ = false := fun oo => by simp
  have hBres_0 : Bx ((w.alloc (Obj.cells #[.int .i64 b.pc, .int .i64 b.len, (.slice Ab1 b.ops.length cb1), .int .i64 b.fin, .int .i64 b.x, .int .i64 b.y, .int .i64 b.k] 25)).alloc (Obj.cells #[.int .i64 0, .int .i64 0, .slice none 0 0, .int .i64 0, .int .i64 0, .int .i64 0, .int .i64 0] 25)) (w.heap.size + 1) [.int .i64 0, .int .i64 0, .slice none 0 0, .int .i64 0, .int .i64 0, .int .i64 0, .int .i64 0] := (by have := (Bx.new (w.alloc (Obj.cells #[.int .i64 b.pc, .int .i64 b.len, (.slice Ab1 b.ops.length cb1), .int .i64 b.fin, .int .i64 b.x, .int .i64 b.y, .int .i64 b.k] 25)) #[.int .i64 0, .int .i64 0, .slice none 0 0, .int .i64 0, .int .i64 0, .int .i64 0, .int .i64 0] 25); simpa using this)
  have hFres_0 : ∀ oo, (((w.alloc (Obj.cells #[.int .i64 b.pc, .int .i64 b.len, (.slice Ab1 b.ops.length cb1), .int .i64 b.fin, .int .i64 b.x, .int .i64 b.y, .int .i64 b.k] 25)).alloc (Obj.cells #[.int .i64 0, .int .i64 0, .slice none 0 0, .int .i64 0, .int .i64 0, .int .i64 0, .int .i64 0] 25))).frozen? ⟨w.heap.size + 1, oo, none⟩ = false := fun oo => by simp
  generalize ((w.alloc (Obj.cells #[.int .i64 b.pc, .int .i64 b.len, (.slice Ab1 b.ops.length cb1), .int .i64 b.fin, .int .i64 b.x, .int .i64 b.y, .int .i64 b.k] 25)).alloc (Obj.cells #[.int .i64 0, .int .i64 0, .slice none 0 0, .int .i64 0, .int .i64 0, .int .i64 0, .int .i64 0] 25)) = w0 at *
  refine (specIrOk_any b _ _ (hb1.ext he0) hkb).mono ?_
  rintro e w1 ⟨rfl, hy⟩
  have hx1 : Ext w0 w1 := Ext.trans (Ext.auto) hy
  have hs1 := hx1.size
  have he1 : Ext w w1 := he0.trans hx1
  have hBb_1 : Bx w1 (w.heap.size) [.int .i64 b.pc, .int .i64 b.len, (.slice Ab1 b.ops.length cb1), .int .i64 b.fin, .int .i64 b.x, .int .i64 b.y, .int .i64 b.k] := hx1.bx hBb_0 (by omega)
  have hFb_1 : ∀ oo, w1.frozen? ⟨w.heap.size, oo, none⟩ = false := fun oo => (hx1.frozen (by omega)).trans (hFb_0 oo)
  have hBres_1 : Bx w1 (w.heap.size + 1) [.int .i64 0, .int .i64 0, .slice none 0 0, .int .i64 0, .int .i64 0, .int .i64 0, .int .i64 0] := hx1.bx hBres_0 (by omega)
  have hFres_1 : ∀ oo, w1.frozen? ⟨w.heap.size + 1, oo, none⟩ = false := fun oo => (hx1.frozen (by omega)).trans (hFres_0 oo)
  clear hBb_0 hFb_0 hBres_0 hFres_0
  clear hy
  cases hok : irOkB b
  · 
    have HNO := hide (optDead_no hok)
    clear hok
    have yres : w.heap.size + 1 < w1.heap.size := by omega
    have xres0 := hBres_1 0 _ rfl
    have xres1 := hBres_1 1 _ rfl
    have xres2 := hBres_1 2 _ rfl
    have xres3 := hBres_1 3 _ rfl
    have xres4 := hBres_1 4 _ rfl
    have xres5 := hBres_1 5 _ rfl
    have xres6 := hBres_1 6 _ rfl
    have fres := hFres_1
    go_wp2
    refine bodyPost_ret (v := .agg #[.int .i64 0, .int .i64 0, .slice none 0 0, .int .i64 0, .int .i64 0, .int .i64 0, .int .i64 0]) (by simp [results, Try.results101, go_sem, xres0, xres1, xres2, xres3, xres4, xres5, xres6, yres]) rfl ⟨.slice none 0 0, [], by rw [HNO.out]; rfl, by rw [HNO.out]; exact OwnSl.nil _, Fr.nil _ _, (Ext.hold he1), Room.nil _ _ _ _⟩
  have HOK := hide hok
  clear hok
  have yb : w.heap.size < w1.heap.size := by omega
  have xb0 := hBb_1 0 _ rfl
  have xb1 := hBb_1 1 _ rfl
  have xb2 := hBb_1 2 _ rfl
  have xb3 := hBb_1 3 _ rfl
  have xb4 := hBb_1 4 _ rfl
  have xb5 := hBb_1 5 _ rfl
  have xb6 := hBb_1 6 _ rfl
  go_wp2_with fail
  have hS : ∀ w', Ext w1 w' → ∀ bb oo, bb < w1.heap.size → w'.cell? ⟨bb, oo, none⟩ = w1.cell? ⟨bb, oo, none⟩ := fun w' hx bb oo hb => hx.cell hb
  refine wp_region_plan (fun w' => Ext w1 w') 3 (.float 0 (.float 1 (.chain 2 (.tail 3)))) (by kernel_rfl) (by kernel_rfl) (Ext.refl _).drew ?_
  iterate 2 ((refine Plan.float_step (v := ?_) rfl (by rfl) (fun _ _ _ h => h) (fun w' hSw => ?_) ?_; rotate_left; · (go_simp; try with_reducible rfl)); (try simp only [Act.put, List.setIfInBounds_toArray, List.set_cons_zero, List.set_cons_succ]))
  refine Plan.chain_step rfl (fun K hK => ?_)
  go_simp
  refine (specOptUsed_any b _ _ (hb1.ext (Ext.trans he1 (Ext.auto))) hkb).mono ?_
  rintro e w2 ⟨r, F, rfl, ho, hf, hy⟩
  refine hK.out _ _ (Ext.trans (Ext.auto) hy) ?_
  clear hK
  (try simp only [Act.put, List.setIfInBounds_toArray, List.set_cons_zero, List.set_cons_succ])
  have hx2 : Ext w1 w2 := Ext.trans (Ext.auto) hy
  have hs2 := hx2.size
  have he2 : Ext w w2 := he1.trans hx2
  have hBb_2 : Bx w2 (w.heap.size) [.int .i64 b.pc, .int .i64 b.len, (.slice Ab1 b.ops.length cb1), .int .i64 b.fin, .int .i64 b.x, .int .i64 b.y, .int .i64 b.k] := hx2.bx hBb_1 (by omega)
  have hFb_2 : ∀ oo, w2.frozen? ⟨w.heap.size, oo, none⟩ = false := fun oo => (hx2.frozen (by omega)).trans (hFb_1 oo)
  have hBres_2 : Bx w2 (w.heap.size + 1) [.int .i64 0, .int .i64 0, .slice none 0 0, .int .i64 0, .int .i64 0, .int .i64 0, .int .i64 0] := hx2.bx hBres_1 (by omega)
  have hFres_2 : ∀ oo, w2.frozen? ⟨w.heap.size + 1, oo, none⟩ = false := fun oo => (hx2.frozen (by omega)).trans (hFres_1 oo)
  clear hBb_1 hFb_1 hBres_1 hFres_1
  clear hy
  refine Plan.tail_step ?_
  simp only [List.drop_succ_cons, List.drop_zero]
  clear hS
  clear xb0 xb1 xb2 xb3 xb4 xb5 xb6 yb
  go_wp2_with fail
  refine (dropDeadR_any b _ _ _ (hb1.ext he2) (optUsed_eq HOK.out ▸ (ho.old hf)) HOK.out).mono ?_
  rintro e w3 ⟨r1, F1, rfl, ho1, hf1, hy, hZ⟩
  have hx3 : Ext w2 w3 := Ext.trans (Ext.auto) hy
  have hs3 := hx3.size
  have he3 : Ext w w3 := he2.trans hx3
  have hBb_3 : Bx w3 (w.heap.size) [.int .i64 b.pc, .int .i64 b.len, (.slice Ab1 b.ops.length cb1), .int .i64 b.fin, .int .i64 b.x, .int .i64 b.y, .int .i64 b.k] := hx3.bx hBb_2 (by omega)
  have hFb_3 : ∀ oo, w3.frozen? ⟨w.heap.size, oo, none⟩ = false := fun oo => (hx3.frozen (by omega)).trans (hFb_2 oo)
  have hBres_3 : Bx w3 (w.heap.size + 1) [.int .i64 0, .int .i64 0, .slice none 0 0, .int .i64 0, .int .i64 0, .int .i64 0, .int .i64 0] := hx3.bx hBres_2 (by omega)
  have hFres_3 : ∀ oo, w3.frozen? ⟨w.heap.size + 1, oo, none⟩ = false := fun oo => (hx3.frozen (by omega)).trans (hFres_2 oo)
  clear hBb_2 hFb_2 hBres_2 hFres_2
  clear hy
  obtain ⟨B1, d1, rfl, -, -⟩ := ho1.sl.form
  have yres : w.heap.size + 1 < w3.heap.size := by omega
  have xres0 := hBres_3 0 _ rfl
  have xres1 := hBres_3 1 _ rfl
  have xres2 := hBres_3 2 _ rfl
  have xres3 := hBres_3 3 _ rfl
  have xres4 := hBres_3 4 _ rfl
  have xres5 := hBres_3 5 _ rfl
  have xres6 := hBres_3 6 _ rfl
  have fres := hFres_3
  go_wp2
  refine bodyPost_ret (v := .agg #[.int .i64 ((optDead b).pc), .int .i64 ((optDead b).len), (.slice B1 (optDead b).ops.length d1), .int .i64 ((optDead b).fin), .int .i64 ((optDead b).x), .int .i64 ((optDead b).y), .int .i64 ((optDead b).k)]) (by simp [results, Try.results101, go_sem, xres0, xres1, xres2, xres3, xres4, xres5, xres6]) rfl ⟨_, F1, rfl, ?_, ?_, ?_, Room.hold (hZ.down (by omega))⟩
  · exact OwnSl.stay ho1 (fun b hb => by
      have q := hf1.2 b hb; have q1 := q.1; have q2 := q.2; (try simp at q1 q2)
      repeat (first | rw [heap_set _ _ _ _ (by simp; omega)] | rw [Ext.heap (Ext.refl _) (by omega)]))
  · exact hf1.mk1 (by omega) (by first | (simp; done) | (simp; omega))
  · exact (Ext.hold he3)

theorem specOptDead_any (b : IrBlock) (vb1 : Value) (w : World) (hb1 : Sl w (Old w) vb1 b.ops) (hkb : b.Ok) :
    Calls Try.prog 101 #[.agg #[.int .i64 b.pc, .int .i64 b.len, vb1, .int .i64 b.fin, .int .i64 b.x, .int .i64 b.y, .int .i64 b.k]] w fun e w' => ∃ r1 F, e = .returned (.agg #[.int .i64 ((optDead b).pc), .int .i64 ((optDead b).len), r1, .int .i64 ((optDead b).fin), .int .i64 ((optDead b).x), .int .i64 ((optDead b).y), .int .i64 ((optDead b).k)]) ∧ OwnSl w' r1 (optDead b).ops F ∧ Fr w w' F ∧ Ext w w' :=
  (specOptDeadR_any b vb1 w hb1 hkb).mono fun e w' ⟨r1, F, h1, h2, h3, h4, _⟩ => ⟨r1, F, h1, h2, h3, h4⟩

end Go.Proofs.Yteaacelfnkiboaa
