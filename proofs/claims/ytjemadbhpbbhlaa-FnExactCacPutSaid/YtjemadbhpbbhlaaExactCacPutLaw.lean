/-
  The law FnExactCacPut returns true for every input.
-/
import Derived.Test.YtjemadbhpbbhlaaCacPut
import Derived.Test.YtjemadbhpbbhlaaTo
import Derived.Test.YtjemadbhpbbhlaaEq
import Derived.Test.YtjemadbhpbbhlaaSz
import Derived.Test.YtjemadbhpbbhlaaMark
import Derived.Test.YtjemadbhpbbhlaaMarkN
import Derived.Test.YtjemadbhpbbhlaaCt
import Derived.Test.YtjemadbhpbbhlaaRegLib
import Derived.Test.YtjemadbhpbbhlaaCertLib
namespace Go.Proofs.Ytjemadbhpbbhlaa
open Go.RowKit

set_option linter.unusedVariables false
set_option linter.unusedSimpArgs false
set_option maxRecDepth 100000

set_option maxHeartbeats 16000000 in
theorem lawExactCacPut_any (l : List CacEntry) (o : CacEntry) (vl vo1 vo2 : Value) (w : World) (hl : Sl w (Old w) vl l) (ho1 : Sl w (Old w) vo1 o.words) (ho2 : Sl w (Old w) vo2 o.block.ops) (hko : o.Ok)  :
    Calls Try.prog 9 #[vl, .agg #[vo1, .int .i64 o.block.pc, .int .i64 o.block.len, vo2, .int .i64 o.block.fin, .int .i64 o.block.x, .int .i64 o.block.y, .int .i64 o.block.k]] w fun e w' => e = .returned (.bool true) ∧ Ext w w' := by
  obtain ⟨Al, cl, rfl, hll, hml⟩ := hl.form
  obtain ⟨Ao1, co1, rfl, hlo1, hmo1⟩ := ho1.form
  obtain ⟨Ao2, co2, rfl, hlo2, hmo2⟩ := ho2.form
  go_enter Try.func9, Try.ntmps9
  go_wp2_with fail
  have he0 : Ext w (w.alloc (Obj.cells #[(.slice Ao1 o.words.length co1), .int .i64 o.block.pc, .int .i64 o.block.len, (.slice Ao2 o.block.ops.length co2), .int .i64 o.block.fin, .int .i64 o.block.x, .int .i64 o.block.y, .int .i64 o.block.k] 65)) := (Ext.auto)
  have hs0 : w.heap.size + 1 ≤ ((w.alloc (Obj.cells #[(.slice Ao1 o.words.length co1), .int .i64 o.block.pc, .int .i64 o.block.len, (.slice Ao2 o.block.ops.length co2), .int .i64 o.block.fin, .int .i64 o.block.x, .int .i64 o.block.y, .int .i64 o.block.k] 65))).heap.size := by simp
  have hq0 := hide (show ((w.alloc (Obj.cells #[(.slice Ao1 o.words.length co1), .int .i64 o.block.pc, .int .i64 o.block.len, (.slice Ao2 o.block.ops.length co2), .int .i64 o.block.fin, .int .i64 o.block.x, .int .i64 o.block.y, .int .i64 o.block.k] 65))).heap.size = w.heap.size + 1 by simp)
  have hBo_0 : Bx (w.alloc (Obj.cells #[(.slice Ao1 o.words.length co1), .int .i64 o.block.pc, .int .i64 o.block.len, (.slice Ao2 o.block.ops.length co2), .int .i64 o.block.fin, .int .i64 o.block.x, .int .i64 o.block.y, .int .i64 o.block.k] 65)) (w.heap.size) [(.slice Ao1 o.words.length co1), .int .i64 o.block.pc, .int .i64 o.block.len, (.slice Ao2 o.block.ops.length co2), .int .i64 o.block.fin, .int .i64 o.block.x, .int .i64 o.block.y, .int .i64 o.block.k] := (by have := (Bx.new w #[(.slice Ao1 o.words.length co1), .int .i64 o.block.pc, .int .i64 o.block.len, (.slice Ao2 o.block.ops.length co2), .int .i64 o.block.fin, .int .i64 o.block.x, .int .i64 o.block.y, .int .i64 o.block.k] 65); simpa using this)
  have hFo_0 : ∀ oo, ((w.alloc (Obj.cells #[(.slice Ao1 o.words.length co1), .int .i64 o.block.pc, .int .i64 o.block.len, (.slice Ao2 o.block.ops.length co2), .int .i64 o.block.fin, .int .i64 o.block.x, .int .i64 o.block.y, .int .i64 o.block.k] 65))).frozen? ⟨w.heap.size, oo, none⟩ = false := fun oo => by simp
  generalize (w.alloc (Obj.cells #[(.slice Ao1 o.words.length co1), .int .i64 o.block.pc, .int .i64 o.block.len, (.slice Ao2 o.block.ops.length co2), .int .i64 o.block.fin, .int .i64 o.block.x, .int .i64 o.block.y, .int .i64 o.block.k] 65)) = w0 at *
  go_wp2_with fail
  refine (sz_ListCacEntry l _ 1048576 _ (hl.ext (Ext.trans he0 (Ext.auto))) (by omega) (by omega)).mono ?_
  rintro e w1 ⟨rzl, rfl, hr, hy⟩
  have hx1 : Ext w0 w1 := Ext.trans (Ext.auto) hy
  have hs1 := hx1.size
  have he1 : Ext w w1 := he0.trans hx1
  have hBo_1 : Bx w1 (w.heap.size) [(.slice Ao1 o.words.length co1), .int .i64 o.block.pc, .int .i64 o.block.len, (.slice Ao2 o.block.ops.length co2), .int .i64 o.block.fin, .int .i64 o.block.x, .int .i64 o.block.y, .int .i64 o.block.k] := hx1.bx hBo_0 (by omega)
  have hFo_1 : ∀ oo, w1.frozen? ⟨w.heap.size, oo, none⟩ = false := fun oo => (hx1.frozen (by omega)).trans (hFo_0 oo)
  clear hBo_0 hFo_0
  clear hy
  rcases hr with ⟨hq, hl0⟩ | ⟨hq, hl0⟩
  rotate_left
  · have hz : rzl < 0 := by omega
    clear hq
    go_wp2
    go_ret
    exact ⟨rfl, he1⟩
  have hzl : 0 ≤ rzl := by omega
  have hyl : rzl ≤ 1048576 := by omega
  have nl : Bulk.blk l ≤ 1048576 := by omega
  have ml : ((Bulk.blk l : Nat) : Int) ≤ 1048576 - rzl := by omega
  have HQl := hide hq
  clear hq hl0
  have yo : w.heap.size < w1.heap.size := by omega
  have xo0 := hBo_1 0 _ rfl
  have xo1 := hBo_1 1 _ rfl
  have xo2 := hBo_1 2 _ rfl
  have xo3 := hBo_1 3 _ rfl
  have xo4 := hBo_1 4 _ rfl
  have xo5 := hBo_1 5 _ rfl
  have xo6 := hBo_1 6 _ rfl
  have xo7 := hBo_1 7 _ rfl
  go_wp2_with fail
  clear xo0 xo1 xo2 xo3 xo4 xo5 xo6 xo7 yo
  refine (sz_CacEntry o _ _ rzl _ (ho1.ext (Ext.trans he1 (Ext.auto))) (ho2.ext (Ext.trans he1 (Ext.auto))) (by omega) (by omega)).mono ?_
  rintro e w2 ⟨rzo, rfl, hr, hy⟩
  have hx2 : Ext w1 w2 := Ext.trans (Ext.auto) hy
  have hs2 := hx2.size
  have he2 : Ext w w2 := he1.trans hx2
  have hBo_2 : Bx w2 (w.heap.size) [(.slice Ao1 o.words.length co1), .int .i64 o.block.pc, .int .i64 o.block.len, (.slice Ao2 o.block.ops.length co2), .int .i64 o.block.fin, .int .i64 o.block.x, .int .i64 o.block.y, .int .i64 o.block.k] := hx2.bx hBo_1 (by omega)
  have hFo_2 : ∀ oo, w2.frozen? ⟨w.heap.size, oo, none⟩ = false := fun oo => (hx2.frozen (by omega)).trans (hFo_1 oo)
  clear hBo_1 hFo_1
  clear hy
  rcases hr with ⟨hq, hl0⟩ | ⟨hq, hl0⟩
  rotate_left
  · have hz : rzo < 0 := by omega
    clear hq
    go_wp2
    go_ret
    exact ⟨rfl, he2⟩
  have hzo : 0 ≤ rzo := by omega
  have hyo : rzo ≤ 1048576 := by omega
  have no : Bulk.blk o ≤ 1048576 := by omega
  have mo : ((Bulk.blk o : Nat) : Int) ≤ rzl - rzo := by omega
  have HQo := hide hq
  clear hq hl0
  go_wp2_with fail
  have yo : w.heap.size < w2.heap.size := by omega
  have xo0 := hBo_2 0 _ rfl
  have xo1 := hBo_2 1 _ rfl
  have xo2 := hBo_2 2 _ rfl
  have xo3 := hBo_2 3 _ rfl
  have xo4 := hBo_2 4 _ rfl
  have xo5 := hBo_2 5 _ rfl
  have xo6 := hBo_2 6 _ rfl
  have xo7 := hBo_2 7 _ rfl
  have hS : ∀ w', Ext w2 w' → ∀ bb oo, bb < w2.heap.size → w'.cell? ⟨bb, oo, none⟩ = w2.cell? ⟨bb, oo, none⟩ := fun w' hx bb oo hb => hx.cell hb
  refine wp_region_plan (fun w' => Ext w2 w') 3 (.float 0 (.float 2 (.chain 1 (.tail 3)))) (by kernel_rfl) (by kernel_rfl) (Ext.refl _).drew ?_
  iterate 2 ((refine Plan.float_step (v := ?_) rfl (by rfl) (fun _ _ _ h => h) (fun w' hSw => ?_) ?_; rotate_left; · (go_simp; try with_reducible rfl)); (try simp only [Act.put, List.setIfInBounds_toArray, List.set_cons_zero, List.set_cons_succ]))
  refine Plan.chain_step rfl (fun K hK => ?_)
  go_simp
  refine (to_ListCacEntry l _ _ (hl.ext (Ext.trans he2 (Ext.auto))) nl).mono ?_
  rintro e w3 ⟨r_pl1, F_pl1, rfl, ho_pl1, hf_pl, hy⟩
  refine hK.out _ _ (Ext.trans (Ext.auto) hy) ?_
  clear hK
  (try simp only [Act.put, List.setIfInBounds_toArray, List.set_cons_zero, List.set_cons_succ])
  have hx3 : Ext w2 w3 := Ext.trans (Ext.auto) hy
  have hs3 := hx3.size
  have he3 : Ext w w3 := he2.trans hx3
  have hBo_3 : Bx w3 (w.heap.size) [(.slice Ao1 o.words.length co1), .int .i64 o.block.pc, .int .i64 o.block.len, (.slice Ao2 o.block.ops.length co2), .int .i64 o.block.fin, .int .i64 o.block.x, .int .i64 o.block.y, .int .i64 o.block.k] := hx3.bx hBo_2 (by omega)
  have hFo_3 : ∀ oo, w3.frozen? ⟨w.heap.size, oo, none⟩ = false := fun oo => (hx3.frozen (by omega)).trans (hFo_2 oo)
  clear hBo_2 hFo_2
  clear hy
  obtain ⟨A_pl1, c_pl1, rfl, -, -⟩ := ho_pl1.sl.form
  have fr_pl : Fr w2 w3 (F_pl1) := hf_pl.mk1 (by first | exact Nat.le_refl _ | (simp; done)) (Nat.le_refl _)
  clear hf_pl
  refine Plan.tail_step ?_
  simp only [List.drop_succ_cons, List.drop_zero]
  clear hS
  clear xo0 xo1 xo2 xo3 xo4 xo5 xo6 xo7 yo
  go_wp2_with fail
  refine (to_CacEntry o _ _ _ (ho1.ext (Ext.trans he3 (Ext.auto))) (ho2.ext (Ext.trans he3 (Ext.auto))) no).mono ?_
  rintro e w4 ⟨r_po1, r_po2, F_po1, F_po2, rfl, ho_po1, ho_po2, hf_po, hy⟩
  have hx4 : Ext w3 w4 := Ext.trans (Ext.auto) hy
  have hs4 := hx4.size
  have he4 : Ext w w4 := he3.trans hx4
  have hBo_4 : Bx w4 (w.heap.size) [(.slice Ao1 o.words.length co1), .int .i64 o.block.pc, .int .i64 o.block.len, (.slice Ao2 o.block.ops.length co2), .int .i64 o.block.fin, .int .i64 o.block.x, .int .i64 o.block.y, .int .i64 o.block.k] := hx4.bx hBo_3 (by omega)
  have hFo_4 : ∀ oo, w4.frozen? ⟨w.heap.size, oo, none⟩ = false := fun oo => (hx4.frozen (by omega)).trans (hFo_3 oo)
  clear hBo_3 hFo_3
  clear hy
  obtain ⟨A_po1, c_po1, rfl, -, -⟩ := ho_po1.sl.form
  obtain ⟨A_po2, c_po2, rfl, -, -⟩ := ho_po2.sl.form
  have fr_po : Fr w3 w4 (F_po1 ++ F_po2) := hf_po.mk1 (by first | exact Nat.le_refl _ | (simp; done)) (Nat.le_refl _)
  clear hf_po
  go_wp2_with fail
  refine (specCacPut_any l o _ _ _ _ ((OwnSl.up ho_pl1 (fr_pl.mk1 (Nat.le_refl _) (by omega)) hx4).old (fr_pl.mk1 (Nat.le_refl _) (by omega))) ((OwnSl.up ho_po1 (fr_po.inl.mk1 (Nat.le_refl _) (by omega)) (Ext.refl _)).old (fr_po.inl.mk1 (Nat.le_refl _) (by omega))) ((OwnSl.up ho_po2 (fr_po.inr.mk1 (Nat.le_refl _) (by omega)) (Ext.refl _)).old (fr_po.inr.mk1 (Nat.le_refl _) (by omega))) hko (by omega)).mono ?_
  rintro e w5 ⟨r_w1, F_w1, rfl, ho_w1, hf_w, hy⟩
  have hx5 : Ext w4 w5 := Ext.trans (Ext.auto) hy
  have hs5 := hx5.size
  have he5 : Ext w w5 := he4.trans hx5
  have hBo_5 : Bx w5 (w.heap.size) [(.slice Ao1 o.words.length co1), .int .i64 o.block.pc, .int .i64 o.block.len, (.slice Ao2 o.block.ops.length co2), .int .i64 o.block.fin, .int .i64 o.block.x, .int .i64 o.block.y, .int .i64 o.block.k] := hx5.bx hBo_4 (by omega)
  have hFo_5 : ∀ oo, w5.frozen? ⟨w.heap.size, oo, none⟩ = false := fun oo => (hx5.frozen (by omega)).trans (hFo_4 oo)
  clear hBo_4 hFo_4
  clear hy
  obtain ⟨A_w1, c_w1, rfl, -, -⟩ := ho_w1.sl.form
  have fr_w : Fr w4 w5 (F_w1) := hf_w.mk1 (by first | exact Nat.le_refl _ | (simp; done)) (Nat.le_refl _)
  clear hf_w
  go_wp2_with fail
  refine (to_ListCacEntry l _ _ (hl.ext (Ext.trans he5 (Ext.auto))) nl).mono ?_
  rintro e w6 ⟨r_xl1, F_xl1, rfl, ho_xl1, hf_xl, hy⟩
  have hx6 : Ext w5 w6 := Ext.trans (Ext.auto) hy
  have hs6 := hx6.size
  have he6 : Ext w w6 := he5.trans hx6
  have hBo_6 : Bx w6 (w.heap.size) [(.slice Ao1 o.words.length co1), .int .i64 o.block.pc, .int .i64 o.block.len, (.slice Ao2 o.block.ops.length co2), .int .i64 o.block.fin, .int .i64 o.block.x, .int .i64 o.block.y, .int .i64 o.block.k] := hx6.bx hBo_5 (by omega)
  have hFo_6 : ∀ oo, w6.frozen? ⟨w.heap.size, oo, none⟩ = false := fun oo => (hx6.frozen (by omega)).trans (hFo_5 oo)
  clear hBo_5 hFo_5
  clear hy
  obtain ⟨A_xl1, c_xl1, rfl, -, -⟩ := ho_xl1.sl.form
  have fr_xl : Fr w5 w6 (F_xl1) := hf_xl.mk1 (by first | exact Nat.le_refl _ | (simp; done)) (Nat.le_refl _)
  clear hf_xl
  have yo : w.heap.size < w6.heap.size := by omega
  have xo0 := hBo_6 0 _ rfl
  have xo1 := hBo_6 1 _ rfl
  have xo2 := hBo_6 2 _ rfl
  have xo3 := hBo_6 3 _ rfl
  have xo4 := hBo_6 4 _ rfl
  have xo5 := hBo_6 5 _ rfl
  have xo6 := hBo_6 6 _ rfl
  have xo7 := hBo_6 7 _ rfl
  go_wp2_with fail
  clear xo0 xo1 xo2 xo3 xo4 xo5 xo6 xo7 yo
  refine (to_CacEntry o _ _ _ (ho1.ext (Ext.trans he6 (Ext.auto))) (ho2.ext (Ext.trans he6 (Ext.auto))) no).mono ?_
  rintro e w7 ⟨r_xo1, r_xo2, F_xo1, F_xo2, rfl, ho_xo1, ho_xo2, hf_xo, hy⟩
  have hx7 : Ext w6 w7 := Ext.trans (Ext.auto) hy
  have hs7 := hx7.size
  have he7 : Ext w w7 := he6.trans hx7
  have hBo_7 : Bx w7 (w.heap.size) [(.slice Ao1 o.words.length co1), .int .i64 o.block.pc, .int .i64 o.block.len, (.slice Ao2 o.block.ops.length co2), .int .i64 o.block.fin, .int .i64 o.block.x, .int .i64 o.block.y, .int .i64 o.block.k] := hx7.bx hBo_6 (by omega)
  have hFo_7 : ∀ oo, w7.frozen? ⟨w.heap.size, oo, none⟩ = false := fun oo => (hx7.frozen (by omega)).trans (hFo_6 oo)
  clear hBo_6 hFo_6
  clear hy
  obtain ⟨A_xo1, c_xo1, rfl, -, -⟩ := ho_xo1.sl.form
  obtain ⟨A_xo2, c_xo2, rfl, -, -⟩ := ho_xo2.sl.form
  have fr_xo : Fr w6 w7 (F_xo1 ++ F_xo2) := hf_xo.mk1 (by first | exact Nat.le_refl _ | (simp; done)) (Nat.le_refl _)
  clear hf_xo
  go_wp2_with fail
  have hx8 : Ext w7 (w7.alloc (Obj.cells #[(.slice A_xo1 (o.words).length c_xo1), .int .i64 o.block.pc, .int .i64 o.block.len, (.slice A_xo2 (o.block.ops).length c_xo2), .int .i64 o.block.fin, .int .i64 o.block.x, .int .i64 o.block.y, .int .i64 o.block.k] 72)) := (Ext.auto)
  have hs8 : w7.heap.size + 1 ≤ ((w7.alloc (Obj.cells #[(.slice A_xo1 (o.words).length c_xo1), .int .i64 o.block.pc, .int .i64 o.block.len, (.slice A_xo2 (o.block.ops).length c_xo2), .int .i64 o.block.fin, .int .i64 o.block.x, .int .i64 o.block.y, .int .i64 o.block.k] 72))).heap.size := by simp
  have he8 : Ext w (w7.alloc (Obj.cells #[(.slice A_xo1 (o.words).length c_xo1), .int .i64 o.block.pc, .int .i64 o.block.len, (.slice A_xo2 (o.block.ops).length c_xo2), .int .i64 o.block.fin, .int .i64 o.block.x, .int .i64 o.block.y, .int .i64 o.block.k] 72)) := he7.trans hx8
  have hBo_8 : Bx (w7.alloc (Obj.cells #[(.slice A_xo1 (o.words).length c_xo1), .int .i64 o.block.pc, .int .i64 o.block.len, (.slice A_xo2 (o.block.ops).length c_xo2), .int .i64 o.block.fin, .int .i64 o.block.x, .int .i64 o.block.y, .int .i64 o.block.k] 72)) (w.heap.size) [(.slice Ao1 o.words.length co1), .int .i64 o.block.pc, .int .i64 o.block.len, (.slice Ao2 o.block.ops.length co2), .int .i64 o.block.fin, .int .i64 o.block.x, .int .i64 o.block.y, .int .i64 o.block.k] := hx8.bx hBo_7 (by omega)
  have hFo_8 : ∀ oo, ((w7.alloc (Obj.cells #[(.slice A_xo1 (o.words).length c_xo1), .int .i64 o.block.pc, .int .i64 o.block.len, (.slice A_xo2 (o.block.ops).length c_xo2), .int .i64 o.block.fin, .int .i64 o.block.x, .int .i64 o.block.y, .int .i64 o.block.k] 72))).frozen? ⟨w.heap.size, oo, none⟩ = false := fun oo => (hx8.frozen (by omega)).trans (hFo_7 oo)
  have hBxo_8 : Bx (w7.alloc (Obj.cells #[(.slice A_xo1 (o.words).length c_xo1), .int .i64 o.block.pc, .int .i64 o.block.len, (.slice A_xo2 (o.block.ops).length c_xo2), .int .i64 o.block.fin, .int .i64 o.block.x, .int .i64 o.block.y, .int .i64 o.block.k] 72)) (w7.heap.size) [(.slice A_xo1 (o.words).length c_xo1), .int .i64 o.block.pc, .int .i64 o.block.len, (.slice A_xo2 (o.block.ops).length c_xo2), .int .i64 o.block.fin, .int .i64 o.block.x, .int .i64 o.block.y, .int .i64 o.block.k] := by have := (by have := (Bx.new w7 #[(.slice A_xo1 (o.words).length c_xo1), .int .i64 o.block.pc, .int .i64 o.block.len, (.slice A_xo2 (o.block.ops).length c_xo2), .int .i64 o.block.fin, .int .i64 o.block.x, .int .i64 o.block.y, .int .i64 o.block.k] 72); simpa using this); exact this
  have hFxo_8 : ∀ oo, ((w7.alloc (Obj.cells #[(.slice A_xo1 (o.words).length c_xo1), .int .i64 o.block.pc, .int .i64 o.block.len, (.slice A_xo2 (o.block.ops).length c_xo2), .int .i64 o.block.fin, .int .i64 o.block.x, .int .i64 o.block.y, .int .i64 o.block.k] 72))).frozen? ⟨w7.heap.size, oo, none⟩ = false := fun oo => by simp
  generalize (w7.alloc (Obj.cells #[(.slice A_xo1 (o.words).length c_xo1), .int .i64 o.block.pc, .int .i64 o.block.len, (.slice A_xo2 (o.block.ops).length c_xo2), .int .i64 o.block.fin, .int .i64 o.block.x, .int .i64 o.block.y, .int .i64 o.block.k] 72)) = w8 at *
  clear hBo_7 hFo_7
  refine (implCacPut_any l o _ _ _ _ ((OwnSl.up ho_xl1 (fr_xl.mk1 (Nat.le_refl _) (by omega)) (Ext.trans hx7 hx8)).old (fr_xl.mk1 (Nat.le_refl _) (by omega))) ((OwnSl.up ho_xo1 (fr_xo.inl.mk1 (Nat.le_refl _) (by omega)) hx8).old (fr_xo.inl.mk1 (Nat.le_refl _) (by omega))) ((OwnSl.up ho_xo2 (fr_xo.inr.mk1 (Nat.le_refl _) (by omega)) hx8).old (fr_xo.inr.mk1 (Nat.le_refl _) (by omega))) hko (by omega)).mono ?_
  rintro e w9 ⟨r_g1, F_g1, rfl, ho_g1, hf_g, hy⟩
  have hx9 : Ext w8 w9 := Ext.trans (Ext.auto) hy
  have hs9 := hx9.size
  have he9 : Ext w w9 := he8.trans hx9
  have hBo_9 : Bx w9 (w.heap.size) [(.slice Ao1 o.words.length co1), .int .i64 o.block.pc, .int .i64 o.block.len, (.slice Ao2 o.block.ops.length co2), .int .i64 o.block.fin, .int .i64 o.block.x, .int .i64 o.block.y, .int .i64 o.block.k] := hx9.bx hBo_8 (by omega)
  have hFo_9 : ∀ oo, w9.frozen? ⟨w.heap.size, oo, none⟩ = false := fun oo => (hx9.frozen (by omega)).trans (hFo_8 oo)
  have hBxo_9 : Bx w9 (w7.heap.size) [(.slice A_xo1 (o.words).length c_xo1), .int .i64 o.block.pc, .int .i64 o.block.len, (.slice A_xo2 (o.block.ops).length c_xo2), .int .i64 o.block.fin, .int .i64 o.block.x, .int .i64 o.block.y, .int .i64 o.block.k] := hx9.bx hBxo_8 (by omega)
  have hFxo_9 : ∀ oo, w9.frozen? ⟨w7.heap.size, oo, none⟩ = false := fun oo => (hx9.frozen (by omega)).trans (hFxo_8 oo)
  clear hBo_8 hFo_8 hBxo_8 hFxo_8
  clear hy
  obtain ⟨A_g1, c_g1, rfl, -, -⟩ := ho_g1.sl.form
  have fr_g : Fr w8 w9 (F_g1) := hf_g.mk1 (by first | exact Nat.le_refl _ | (simp; done)) (Nat.le_refl _)
  clear hf_g
  go_wp2_with fail
  refine (eq_ListCacEntry (cacPut l o) (cacPut l o) _ _  _ ((OwnSl.up ho_g1 (fr_g.mk1 (Nat.le_refl _) (by omega)) (Ext.refl _)).old (fr_g.mk1 (Nat.le_refl _) (by omega))) ((OwnSl.up ho_w1 (fr_w.mk1 (Nat.le_refl _) (by omega)) (Ext.trans (Ext.trans (Ext.trans hx6 hx7) hx8) hx9)).old (fr_w.mk1 (Nat.le_refl _) (by omega)))).mono ?_
  rintro e w10 ⟨rfl, hy⟩
  have hx10 : Ext w9 w10 := Ext.trans (Ext.auto) hy
  have hs10 := hx10.size
  have he10 : Ext w w10 := he9.trans hx10
  have hBo_10 : Bx w10 (w.heap.size) [(.slice Ao1 o.words.length co1), .int .i64 o.block.pc, .int .i64 o.block.len, (.slice Ao2 o.block.ops.length co2), .int .i64 o.block.fin, .int .i64 o.block.x, .int .i64 o.block.y, .int .i64 o.block.k] := hx10.bx hBo_9 (by omega)
  have hFo_10 : ∀ oo, w10.frozen? ⟨w.heap.size, oo, none⟩ = false := fun oo => (hx10.frozen (by omega)).trans (hFo_9 oo)
  have hBxo_10 : Bx w10 (w7.heap.size) [(.slice A_xo1 (o.words).length c_xo1), .int .i64 o.block.pc, .int .i64 o.block.len, (.slice A_xo2 (o.block.ops).length c_xo2), .int .i64 o.block.fin, .int .i64 o.block.x, .int .i64 o.block.y, .int .i64 o.block.k] := hx10.bx hBxo_9 (by omega)
  have hFxo_10 : ∀ oo, w10.frozen? ⟨w7.heap.size, oo, none⟩ = false := fun oo => (hx10.frozen (by omega)).trans (hFxo_9 oo)
  clear hBo_9 hFo_9 hBxo_9 hFxo_9
  clear hy
  go_wp2_with fail
  refine (to_ListCacEntry l _ _ (hl.ext (Ext.trans he10 (Ext.auto))) nl).mono ?_
  rintro e w11 ⟨r_yl1, F_yl1, rfl, ho_yl1, hf_yl, hy⟩
  have hx11 : Ext w10 w11 := Ext.trans (Ext.auto) hy
  have hs11 := hx11.size
  have he11 : Ext w w11 := he10.trans hx11
  have hBo_11 : Bx w11 (w.heap.size) [(.slice Ao1 o.words.length co1), .int .i64 o.block.pc, .int .i64 o.block.len, (.slice Ao2 o.block.ops.length co2), .int .i64 o.block.fin, .int .i64 o.block.x, .int .i64 o.block.y, .int .i64 o.block.k] := hx11.bx hBo_10 (by omega)
  have hFo_11 : ∀ oo, w11.frozen? ⟨w.heap.size, oo, none⟩ = false := fun oo => (hx11.frozen (by omega)).trans (hFo_10 oo)
  have hBxo_11 : Bx w11 (w7.heap.size) [(.slice A_xo1 (o.words).length c_xo1), .int .i64 o.block.pc, .int .i64 o.block.len, (.slice A_xo2 (o.block.ops).length c_xo2), .int .i64 o.block.fin, .int .i64 o.block.x, .int .i64 o.block.y, .int .i64 o.block.k] := hx11.bx hBxo_10 (by omega)
  have hFxo_11 : ∀ oo, w11.frozen? ⟨w7.heap.size, oo, none⟩ = false := fun oo => (hx11.frozen (by omega)).trans (hFxo_10 oo)
  clear hBo_10 hFo_10 hBxo_10 hFxo_10
  clear hy
  obtain ⟨A_yl1, c_yl1, rfl, -, -⟩ := ho_yl1.sl.form
  have fr_yl : Fr w10 w11 (F_yl1) := hf_yl.mk1 (by first | exact Nat.le_refl _ | (simp; done)) (Nat.le_refl _)
  clear hf_yl
  go_wp2_with fail
  refine (eq_ListCacEntry l l _ _  _ ((OwnSl.up ho_xl1 (fr_xl.mk1 (Nat.le_refl _) (by omega)) (Ext.trans (Ext.trans (Ext.trans (Ext.trans hx7 hx8) hx9) hx10) hx11)).old (fr_xl.mk1 (Nat.le_refl _) (by omega))) ((OwnSl.up ho_yl1 (fr_yl.mk1 (Nat.le_refl _) (by omega)) (Ext.refl _)).old (fr_yl.mk1 (Nat.le_refl _) (by omega)))).mono ?_
  rintro e w12 ⟨rfl, hy⟩
  have hx12 : Ext w11 w12 := Ext.trans (Ext.auto) hy
  have hs12 := hx12.size
  have he12 : Ext w w12 := he11.trans hx12
  have hBo_12 : Bx w12 (w.heap.size) [(.slice Ao1 o.words.length co1), .int .i64 o.block.pc, .int .i64 o.block.len, (.slice Ao2 o.block.ops.length co2), .int .i64 o.block.fin, .int .i64 o.block.x, .int .i64 o.block.y, .int .i64 o.block.k] := hx12.bx hBo_11 (by omega)
  have hFo_12 : ∀ oo, w12.frozen? ⟨w.heap.size, oo, none⟩ = false := fun oo => (hx12.frozen (by omega)).trans (hFo_11 oo)
  have hBxo_12 : Bx w12 (w7.heap.size) [(.slice A_xo1 (o.words).length c_xo1), .int .i64 o.block.pc, .int .i64 o.block.len, (.slice A_xo2 (o.block.ops).length c_xo2), .int .i64 o.block.fin, .int .i64 o.block.x, .int .i64 o.block.y, .int .i64 o.block.k] := hx12.bx hBxo_11 (by omega)
  have hFxo_12 : ∀ oo, w12.frozen? ⟨w7.heap.size, oo, none⟩ = false := fun oo => (hx12.frozen (by omega)).trans (hFxo_11 oo)
  clear hBo_11 hFo_11 hBxo_11 hFxo_11
  clear hy
  clear ho_yl1 fr_yl
  go_wp2_with fail
  have yxo : w7.heap.size < w12.heap.size := by omega
  have xxo0 := hBxo_12 0 _ rfl
  have xxo1 := hBxo_12 1 _ rfl
  have xxo2 := hBxo_12 2 _ rfl
  have xxo3 := hBxo_12 3 _ rfl
  have xxo4 := hBxo_12 4 _ rfl
  have xxo5 := hBxo_12 5 _ rfl
  have xxo6 := hBxo_12 6 _ rfl
  have xxo7 := hBxo_12 7 _ rfl
  have yo : w.heap.size < w12.heap.size := by omega
  have xo0 := hBo_12 0 _ rfl
  have xo1 := hBo_12 1 _ rfl
  have xo2 := hBo_12 2 _ rfl
  have xo3 := hBo_12 3 _ rfl
  have xo4 := hBo_12 4 _ rfl
  have xo5 := hBo_12 5 _ rfl
  have xo6 := hBo_12 6 _ rfl
  have xo7 := hBo_12 7 _ rfl
  have hS : ∀ w', Ext w12 w' → ∀ bb oo, bb < w12.heap.size → w'.cell? ⟨bb, oo, none⟩ = w12.cell? ⟨bb, oo, none⟩ := fun w' hx bb oo hb => hx.cell hb
  refine wp_region_plan (fun w' => Ext w12 w') 3 (.float 0 (.float 1 (.chain 2 (.tail 3)))) (by kernel_rfl) (by kernel_rfl) (Ext.refl _).drew ?_
  iterate 2 ((refine Plan.float_step (v := ?_) rfl (by rfl) (fun _ _ _ h => h) (fun w' hSw => ?_) ?_; rotate_left; · (go_simp; try with_reducible rfl)); (try simp only [Act.put, List.setIfInBounds_toArray, List.set_cons_zero, List.set_cons_succ]))
  refine Plan.chain_step rfl (fun K hK => ?_)
  go_simp
  refine (to_CacEntry o _ _ _ (ho1.ext (Ext.trans he12 (Ext.auto))) (ho2.ext (Ext.trans he12 (Ext.auto))) no).mono ?_
  rintro e w13 ⟨r_yo1, r_yo2, F_yo1, F_yo2, rfl, ho_yo1, ho_yo2, hf_yo, hy⟩
  refine hK.out _ _ (Ext.trans (Ext.auto) hy) ?_
  clear hK
  (try simp only [Act.put, List.setIfInBounds_toArray, List.set_cons_zero, List.set_cons_succ])
  have hx13 : Ext w12 w13 := Ext.trans (Ext.auto) hy
  have hs13 := hx13.size
  have he13 : Ext w w13 := he12.trans hx13
  have hBo_13 : Bx w13 (w.heap.size) [(.slice Ao1 o.words.length co1), .int .i64 o.block.pc, .int .i64 o.block.len, (.slice Ao2 o.block.ops.length co2), .int .i64 o.block.fin, .int .i64 o.block.x, .int .i64 o.block.y, .int .i64 o.block.k] := hx13.bx hBo_12 (by omega)
  have hFo_13 : ∀ oo, w13.frozen? ⟨w.heap.size, oo, none⟩ = false := fun oo => (hx13.frozen (by omega)).trans (hFo_12 oo)
  have hBxo_13 : Bx w13 (w7.heap.size) [(.slice A_xo1 (o.words).length c_xo1), .int .i64 o.block.pc, .int .i64 o.block.len, (.slice A_xo2 (o.block.ops).length c_xo2), .int .i64 o.block.fin, .int .i64 o.block.x, .int .i64 o.block.y, .int .i64 o.block.k] := hx13.bx hBxo_12 (by omega)
  have hFxo_13 : ∀ oo, w13.frozen? ⟨w7.heap.size, oo, none⟩ = false := fun oo => (hx13.frozen (by omega)).trans (hFxo_12 oo)
  clear hBo_12 hFo_12 hBxo_12 hFxo_12
  clear hy
  obtain ⟨A_yo1, c_yo1, rfl, -, -⟩ := ho_yo1.sl.form
  obtain ⟨A_yo2, c_yo2, rfl, -, -⟩ := ho_yo2.sl.form
  have fr_yo : Fr w12 w13 (F_yo1 ++ F_yo2) := hf_yo.mk1 (by first | exact Nat.le_refl _ | (simp; done)) (Nat.le_refl _)
  clear hf_yo
  refine Plan.tail_step ?_
  simp only [List.drop_succ_cons, List.drop_zero]
  clear hS
  clear xxo0 xxo1 xxo2 xxo3 xxo4 xxo5 xxo6 xxo7 yxo
  clear xo0 xo1 xo2 xo3 xo4 xo5 xo6 xo7 yo
  go_wp2_with fail
  refine (eq_CacEntry o o _ _ _ _  _ ((OwnSl.up ho_xo1 (fr_xo.inl.mk1 (Nat.le_refl _) (by omega)) (Ext.trans (Ext.trans (Ext.trans (Ext.trans (Ext.trans hx8 hx9) hx10) hx11) hx12) hx13)).old (fr_xo.inl.mk1 (Nat.le_refl _) (by omega))) ((OwnSl.up ho_xo2 (fr_xo.inr.mk1 (Nat.le_refl _) (by omega)) (Ext.trans (Ext.trans (Ext.trans (Ext.trans (Ext.trans hx8 hx9) hx10) hx11) hx12) hx13)).old (fr_xo.inr.mk1 (Nat.le_refl _) (by omega))) ((OwnSl.up ho_yo1 (fr_yo.inl.mk1 (Nat.le_refl _) (by omega)) (Ext.refl _)).old (fr_yo.inl.mk1 (Nat.le_refl _) (by omega))) ((OwnSl.up ho_yo2 (fr_yo.inr.mk1 (Nat.le_refl _) (by omega)) (Ext.refl _)).old (fr_yo.inr.mk1 (Nat.le_refl _) (by omega)))).mono ?_
  rintro e w14 ⟨rfl, hy⟩
  have hx14 : Ext w13 w14 := Ext.trans (Ext.auto) hy
  have hs14 := hx14.size
  have he14 : Ext w w14 := he13.trans hx14
  have hBo_14 : Bx w14 (w.heap.size) [(.slice Ao1 o.words.length co1), .int .i64 o.block.pc, .int .i64 o.block.len, (.slice Ao2 o.block.ops.length co2), .int .i64 o.block.fin, .int .i64 o.block.x, .int .i64 o.block.y, .int .i64 o.block.k] := hx14.bx hBo_13 (by omega)
  have hFo_14 : ∀ oo, w14.frozen? ⟨w.heap.size, oo, none⟩ = false := fun oo => (hx14.frozen (by omega)).trans (hFo_13 oo)
  have hBxo_14 : Bx w14 (w7.heap.size) [(.slice A_xo1 (o.words).length c_xo1), .int .i64 o.block.pc, .int .i64 o.block.len, (.slice A_xo2 (o.block.ops).length c_xo2), .int .i64 o.block.fin, .int .i64 o.block.x, .int .i64 o.block.y, .int .i64 o.block.k] := hx14.bx hBxo_13 (by omega)
  have hFxo_14 : ∀ oo, w14.frozen? ⟨w7.heap.size, oo, none⟩ = false := fun oo => (hx14.frozen (by omega)).trans (hFxo_13 oo)
  clear hBo_13 hFo_13 hBxo_13 hFxo_13
  clear hy
  clear ho_yo1 ho_yo2 fr_yo
  clear ho_pl1 fr_pl
  clear ho_po1 ho_po2 fr_po
  have hct_xl := ct_le (l)
  go_wp2_with fail
  refine (mark_ListCacEntry (l) _ _ (1) _ (OwnSl.up ho_xl1 (fr_xl.mk1 (Nat.le_refl _) (by omega)) (Ext.trans (Ext.trans (Ext.trans (Ext.trans (Ext.trans (Ext.trans (Ext.trans hx7 hx8) hx9) hx10) hx11) hx12) hx13) hx14)) fr_xl.1 (fun x hx => by have := (fr_xl.2 x hx).2; omega) (by omega) (by omega)).mono ?_
  rintro e w15 ⟨rfl, hm_xl1, hy⟩
  have hc15 : Chg F_xl1 w14 w15 := hy
  have hs15 := hc15.size
  have he15 : Ext w w15 := Chg.ext he14 hc15 (fun x hx => by have := (fr_xl.2 x hx).1; omega)
  have hBo_15 : Bx w15 (w.heap.size) [(.slice Ao1 o.words.length co1), .int .i64 o.block.pc, .int .i64 o.block.len, (.slice Ao2 o.block.ops.length co2), .int .i64 o.block.fin, .int .i64 o.block.x, .int .i64 o.block.y, .int .i64 o.block.k] := fun j u hu => (hc15.cell (by omega) (by intro hm; have := (fr_xl.2 _ hm); have h1 := this.1; have h2 := this.2; omega)).trans (hBo_14 j u hu)
  have hFo_15 : ∀ oo, w15.frozen? ⟨w.heap.size, oo, none⟩ = false := fun oo => (hc15.frozen _ _ (by omega)).trans (hFo_14 oo)
  have hBxo_15 : Bx w15 (w7.heap.size) [(.slice A_xo1 (o.words).length c_xo1), .int .i64 o.block.pc, .int .i64 o.block.len, (.slice A_xo2 (o.block.ops).length c_xo2), .int .i64 o.block.fin, .int .i64 o.block.x, .int .i64 o.block.y, .int .i64 o.block.k] := fun j u hu => (hc15.cell (by omega) (by intro hm; have := (fr_xl.2 _ hm); have h1 := this.1; have h2 := this.2; omega)).trans (hBxo_14 j u hu)
  have hFxo_15 : ∀ oo, w15.frozen? ⟨w7.heap.size, oo, none⟩ = false := fun oo => (hc15.frozen _ _ (by omega)).trans (hFxo_14 oo)
  clear hBo_14 hFo_14 hBxo_14 hFxo_14
  have ho_w1' := (OwnSl.up ho_w1 (fr_w.mk1 (Nat.le_refl _) (by omega)) (Ext.trans (Ext.trans (Ext.trans (Ext.trans (Ext.trans (Ext.trans (Ext.trans (Ext.trans hx6 hx7) hx8) hx9) hx10) hx11) hx12) hx13) hx14)).past fr_w (by omega) hc15 (fun x hx => (fr_w.apart fr_xl (by omega)) x (by simp [hx]))
  clear ho_w1
  have ho_w1 := ho_w1'
  clear ho_w1'
  have ho_xo1' := (OwnSl.up ho_xo1 (fr_xo.inl.mk1 (Nat.le_refl _) (by omega)) (Ext.trans (Ext.trans (Ext.trans (Ext.trans (Ext.trans (Ext.trans hx8 hx9) hx10) hx11) hx12) hx13) hx14)).past fr_xo.inl (by omega) hc15 (fun x hx => (fr_xo.apart' fr_xl (by omega)) x (by simp [hx]))
  clear ho_xo1
  have ho_xo1 := ho_xo1'
  clear ho_xo1'
  have ho_xo2' := (OwnSl.up ho_xo2 (fr_xo.inr.mk1 (Nat.le_refl _) (by omega)) (Ext.trans (Ext.trans (Ext.trans (Ext.trans (Ext.trans (Ext.trans hx8 hx9) hx10) hx11) hx12) hx13) hx14)).past fr_xo.inr (by omega) hc15 (fun x hx => (fr_xo.apart' fr_xl (by omega)) x (by simp [hx]))
  clear ho_xo2
  have ho_xo2 := ho_xo2'
  clear ho_xo2'
  have ho_g1' := (OwnSl.up ho_g1 (fr_g.mk1 (Nat.le_refl _) (by omega)) (Ext.trans (Ext.trans (Ext.trans (Ext.trans hx10 hx11) hx12) hx13) hx14)).past fr_g (by omega) hc15 (fun x hx => (fr_g.apart' fr_xl (by omega)) x (by simp [hx]))
  clear ho_g1
  have ho_g1 := ho_g1'
  clear ho_g1'
  clear hy
  have hct_xo := CacEntry.ctV_le (o)
  have yxo : w7.heap.size < w15.heap.size := by omega
  have xxo0 := hBxo_15 0 _ rfl
  have xxo1 := hBxo_15 1 _ rfl
  have xxo2 := hBxo_15 2 _ rfl
  have xxo3 := hBxo_15 3 _ rfl
  have xxo4 := hBxo_15 4 _ rfl
  have xxo5 := hBxo_15 5 _ rfl
  have xxo6 := hBxo_15 6 _ rfl
  have xxo7 := hBxo_15 7 _ rfl
  go_wp2_with fail
  clear xxo0 xxo1 xxo2 xxo3 xxo4 xxo5 xxo6 xxo7 yxo
  refine (mark_CacEntry (o) _ _ _ _ (1 + ((Mk.ct (l) : Nat) : Int)) _ (OwnSl.up ho_xo1 (fr_xo.inl.mk1 (Nat.le_refl _) (by omega)) (Ext.refl _)) (OwnSl.up ho_xo2 (fr_xo.inr.mk1 (Nat.le_refl _) (by omega)) (Ext.refl _)) fr_xo.1 (fun x hx => by have := (fr_xo.2 x hx).2; omega) (by omega) (by omega)).mono ?_
  rintro e w16 ⟨rfl, hm_xo1, hm_xo2, hy⟩
  have hc16 : Chg (F_xo1 ++ F_xo2) w15 w16 := hy
  have hs16 := hc16.size
  have he16 : Ext w w16 := Chg.ext he15 hc16 (fun x hx => by have := (fr_xo.2 x hx).1; omega)
  have hBo_16 : Bx w16 (w.heap.size) [(.slice Ao1 o.words.length co1), .int .i64 o.block.pc, .int .i64 o.block.len, (.slice Ao2 o.block.ops.length co2), .int .i64 o.block.fin, .int .i64 o.block.x, .int .i64 o.block.y, .int .i64 o.block.k] := fun j u hu => (hc16.cell (by omega) (by intro hm; have := (fr_xo.2 _ hm); have h1 := this.1; have h2 := this.2; omega)).trans (hBo_15 j u hu)
  have hFo_16 : ∀ oo, w16.frozen? ⟨w.heap.size, oo, none⟩ = false := fun oo => (hc16.frozen _ _ (by omega)).trans (hFo_15 oo)
  have hBxo_16 : Bx w16 (w7.heap.size) [(.slice A_xo1 (o.words).length c_xo1), .int .i64 o.block.pc, .int .i64 o.block.len, (.slice A_xo2 (o.block.ops).length c_xo2), .int .i64 o.block.fin, .int .i64 o.block.x, .int .i64 o.block.y, .int .i64 o.block.k] := fun j u hu => (hc16.cell (by omega) (by intro hm; have := (fr_xo.2 _ hm); have h1 := this.1; have h2 := this.2; omega)).trans (hBxo_15 j u hu)
  have hFxo_16 : ∀ oo, w16.frozen? ⟨w7.heap.size, oo, none⟩ = false := fun oo => (hc16.frozen _ _ (by omega)).trans (hFxo_15 oo)
  clear hBo_15 hFo_15 hBxo_15 hFxo_15
  have ho_w1' := (OwnSl.up ho_w1 (fr_w.mk1 (Nat.le_refl _) (by omega)) (Ext.refl _)).past fr_w (by omega) hc16 (fun x hx => (fr_w.apart fr_xo (by omega)) x (by simp [hx]))
  clear ho_w1
  have ho_w1 := ho_w1'
  clear ho_w1'
  have hm_xl1' := (OwnSl.up hm_xl1 (fr_xl.mk1 (Nat.le_refl _) (by omega)) (Ext.refl _)).past fr_xl (by omega) hc16 (fun x hx => (fr_xl.apart fr_xo (by omega)) x (by simp [hx]))
  clear hm_xl1
  have hm_xl1 := hm_xl1'
  clear hm_xl1'
  have ho_g1' := (OwnSl.up ho_g1 (fr_g.mk1 (Nat.le_refl _) (by omega)) (Ext.refl _)).past fr_g (by omega) hc16 (fun x hx => (fr_g.apart' fr_xo (by omega)) x (by simp [hx]))
  clear ho_g1
  have ho_g1 := ho_g1'
  clear ho_g1'
  clear hy
  go_wp2_with fail
  refine (eq_ListCacEntry (cacPut l o) (cacPut l o) _ _  _ ((OwnSl.up ho_g1 (fr_g.mk1 (Nat.le_refl _) (by omega)) (Ext.refl _)).old (fr_g.mk1 (Nat.le_refl _) (by omega))) ((OwnSl.up ho_w1 (fr_w.mk1 (Nat.le_refl _) (by omega)) (Ext.refl _)).old (fr_w.mk1 (Nat.le_refl _) (by omega)))).mono ?_
  rintro e w17 ⟨rfl, hy⟩
  have hx17 : Ext w16 w17 := Ext.trans (Ext.auto) hy
  have hs17 := hx17.size
  have he17 : Ext w w17 := he16.trans hx17
  have hBo_17 : Bx w17 (w.heap.size) [(.slice Ao1 o.words.length co1), .int .i64 o.block.pc, .int .i64 o.block.len, (.slice Ao2 o.block.ops.length co2), .int .i64 o.block.fin, .int .i64 o.block.x, .int .i64 o.block.y, .int .i64 o.block.k] := hx17.bx hBo_16 (by omega)
  have hFo_17 : ∀ oo, w17.frozen? ⟨w.heap.size, oo, none⟩ = false := fun oo => (hx17.frozen (by omega)).trans (hFo_16 oo)
  have hBxo_17 : Bx w17 (w7.heap.size) [(.slice A_xo1 (o.words).length c_xo1), .int .i64 o.block.pc, .int .i64 o.block.len, (.slice A_xo2 (o.block.ops).length c_xo2), .int .i64 o.block.fin, .int .i64 o.block.x, .int .i64 o.block.y, .int .i64 o.block.k] := hx17.bx hBxo_16 (by omega)
  have hFxo_17 : ∀ oo, w17.frozen? ⟨w7.heap.size, oo, none⟩ = false := fun oo => (hx17.frozen (by omega)).trans (hFxo_16 oo)
  clear hBo_16 hFo_16 hBxo_16 hFxo_16
  clear hy
  clear hm_xl1 fr_xl
  clear hm_xo1 hm_xo2 fr_xo
  have hct_g := ct_le (cacPut l o)
  have hrb := blk_cacPut l o
  go_wp2_with fail
  refine (mark_ListCacEntry (cacPut l o) _ _ (1) _ (OwnSl.up ho_g1 (fr_g.mk1 (Nat.le_refl _) (by omega)) hx17) fr_g.1 (fun x hx => by have := (fr_g.2 x hx).2; omega) (by omega) (by omega)).mono ?_
  rintro e w18 ⟨rfl, hm_g1, hy⟩
  have hc18 : Chg F_g1 w17 w18 := hy
  have hs18 := hc18.size
  have he18 : Ext w w18 := Chg.ext he17 hc18 (fun x hx => by have := (fr_g.2 x hx).1; omega)
  have hBo_18 : Bx w18 (w.heap.size) [(.slice Ao1 o.words.length co1), .int .i64 o.block.pc, .int .i64 o.block.len, (.slice Ao2 o.block.ops.length co2), .int .i64 o.block.fin, .int .i64 o.block.x, .int .i64 o.block.y, .int .i64 o.block.k] := fun j u hu => (hc18.cell (by omega) (by intro hm; have := (fr_g.2 _ hm); have h1 := this.1; have h2 := this.2; omega)).trans (hBo_17 j u hu)
  have hFo_18 : ∀ oo, w18.frozen? ⟨w.heap.size, oo, none⟩ = false := fun oo => (hc18.frozen _ _ (by omega)).trans (hFo_17 oo)
  have hBxo_18 : Bx w18 (w7.heap.size) [(.slice A_xo1 (o.words).length c_xo1), .int .i64 o.block.pc, .int .i64 o.block.len, (.slice A_xo2 (o.block.ops).length c_xo2), .int .i64 o.block.fin, .int .i64 o.block.x, .int .i64 o.block.y, .int .i64 o.block.k] := fun j u hu => (hc18.cell (by omega) (by intro hm; have := (fr_g.2 _ hm); have h1 := this.1; have h2 := this.2; omega)).trans (hBxo_17 j u hu)
  have hFxo_18 : ∀ oo, w18.frozen? ⟨w7.heap.size, oo, none⟩ = false := fun oo => (hc18.frozen _ _ (by omega)).trans (hFxo_17 oo)
  clear hBo_17 hFo_17 hBxo_17 hFxo_17
  have ho_w1' := (OwnSl.up ho_w1 (fr_w.mk1 (Nat.le_refl _) (by omega)) hx17).past fr_w (by omega) hc18 (fun x hx => (fr_w.apart fr_g (by omega)) x (by simp [hx]))
  clear ho_w1
  have ho_w1 := ho_w1'
  clear ho_w1'
  clear hy
  go_wp2_with fail
  refine (held_ListCacEntry (cacPut l o) _ (1) _ ((OwnSl.up hm_g1 (fr_g.mk1 (Nat.le_refl _) (by omega)) (Ext.refl _)).old (fr_g.mk1 (Nat.le_refl _) (by omega))) (by omega) (by omega)).mono ?_
  rintro e w19 ⟨rfl, hy⟩
  have hx19 : Ext w18 w19 := Ext.trans (Ext.auto) hy
  have hs19 := hx19.size
  have he19 : Ext w w19 := he18.trans hx19
  have hBo_19 : Bx w19 (w.heap.size) [(.slice Ao1 o.words.length co1), .int .i64 o.block.pc, .int .i64 o.block.len, (.slice Ao2 o.block.ops.length co2), .int .i64 o.block.fin, .int .i64 o.block.x, .int .i64 o.block.y, .int .i64 o.block.k] := hx19.bx hBo_18 (by omega)
  have hFo_19 : ∀ oo, w19.frozen? ⟨w.heap.size, oo, none⟩ = false := fun oo => (hx19.frozen (by omega)).trans (hFo_18 oo)
  have hBxo_19 : Bx w19 (w7.heap.size) [(.slice A_xo1 (o.words).length c_xo1), .int .i64 o.block.pc, .int .i64 o.block.len, (.slice A_xo2 (o.block.ops).length c_xo2), .int .i64 o.block.fin, .int .i64 o.block.x, .int .i64 o.block.y, .int .i64 o.block.k] := hx19.bx hBxo_18 (by omega)
  have hFxo_19 : ∀ oo, w19.frozen? ⟨w7.heap.size, oo, none⟩ = false := fun oo => (hx19.frozen (by omega)).trans (hFxo_18 oo)
  clear hBo_18 hFo_18 hBxo_18 hFxo_18
  clear hy
  go_wp2_with fail
  have yo : w.heap.size < w19.heap.size := by omega
  have xo0 := hBo_19 0 _ rfl
  have xo1 := hBo_19 1 _ rfl
  have xo2 := hBo_19 2 _ rfl
  have xo3 := hBo_19 3 _ rfl
  have xo4 := hBo_19 4 _ rfl
  have xo5 := hBo_19 5 _ rfl
  have xo6 := hBo_19 6 _ rfl
  have xo7 := hBo_19 7 _ rfl
  have hS : ∀ w', Ext w19 w' → ∀ bb oo, bb < w19.heap.size → w'.cell? ⟨bb, oo, none⟩ = w19.cell? ⟨bb, oo, none⟩ := fun w' hx bb oo hb => hx.cell hb
  refine wp_region_plan (fun w' => Ext w19 w') 3 (.float 0 (.float 2 (.chain 1 (.tail 3)))) (by kernel_rfl) (by kernel_rfl) (Ext.refl _).drew ?_
  iterate 2 ((refine Plan.float_step (v := ?_) rfl (by rfl) (fun _ _ _ h => h) (fun w' hSw => ?_) ?_; rotate_left; · (go_simp; try with_reducible rfl)); (try simp only [Act.put, List.setIfInBounds_toArray, List.set_cons_zero, List.set_cons_succ]))
  refine Plan.chain_step rfl (fun K hK => ?_)
  go_simp
  refine (to_ListCacEntry l _ _ (hl.ext (Ext.trans he19 (Ext.auto))) nl).mono ?_
  rintro e w20 ⟨r_zl1, F_zl1, rfl, ho_zl1, hf_zl, hy⟩
  refine hK.out _ _ (Ext.trans (Ext.auto) hy) ?_
  clear hK
  (try simp only [Act.put, List.setIfInBounds_toArray, List.set_cons_zero, List.set_cons_succ])
  have hx20 : Ext w19 w20 := Ext.trans (Ext.auto) hy
  have hs20 := hx20.size
  have he20 : Ext w w20 := he19.trans hx20
  have hBo_20 : Bx w20 (w.heap.size) [(.slice Ao1 o.words.length co1), .int .i64 o.block.pc, .int .i64 o.block.len, (.slice Ao2 o.block.ops.length co2), .int .i64 o.block.fin, .int .i64 o.block.x, .int .i64 o.block.y, .int .i64 o.block.k] := hx20.bx hBo_19 (by omega)
  have hFo_20 : ∀ oo, w20.frozen? ⟨w.heap.size, oo, none⟩ = false := fun oo => (hx20.frozen (by omega)).trans (hFo_19 oo)
  have hBxo_20 : Bx w20 (w7.heap.size) [(.slice A_xo1 (o.words).length c_xo1), .int .i64 o.block.pc, .int .i64 o.block.len, (.slice A_xo2 (o.block.ops).length c_xo2), .int .i64 o.block.fin, .int .i64 o.block.x, .int .i64 o.block.y, .int .i64 o.block.k] := hx20.bx hBxo_19 (by omega)
  have hFxo_20 : ∀ oo, w20.frozen? ⟨w7.heap.size, oo, none⟩ = false := fun oo => (hx20.frozen (by omega)).trans (hFxo_19 oo)
  clear hBo_19 hFo_19 hBxo_19 hFxo_19
  clear hy
  obtain ⟨A_zl1, c_zl1, rfl, -, -⟩ := ho_zl1.sl.form
  have fr_zl : Fr w19 w20 (F_zl1) := hf_zl.mk1 (by first | exact Nat.le_refl _ | (simp; done)) (Nat.le_refl _)
  clear hf_zl
  refine Plan.tail_step ?_
  simp only [List.drop_succ_cons, List.drop_zero]
  clear hS
  clear xo0 xo1 xo2 xo3 xo4 xo5 xo6 xo7 yo
  go_wp2_with fail
  refine (to_CacEntry o _ _ _ (ho1.ext (Ext.trans he20 (Ext.auto))) (ho2.ext (Ext.trans he20 (Ext.auto))) no).mono ?_
  rintro e w21 ⟨r_zo1, r_zo2, F_zo1, F_zo2, rfl, ho_zo1, ho_zo2, hf_zo, hy⟩
  have hx21 : Ext w20 w21 := Ext.trans (Ext.auto) hy
  have hs21 := hx21.size
  have he21 : Ext w w21 := he20.trans hx21
  have hBo_21 : Bx w21 (w.heap.size) [(.slice Ao1 o.words.length co1), .int .i64 o.block.pc, .int .i64 o.block.len, (.slice Ao2 o.block.ops.length co2), .int .i64 o.block.fin, .int .i64 o.block.x, .int .i64 o.block.y, .int .i64 o.block.k] := hx21.bx hBo_20 (by omega)
  have hFo_21 : ∀ oo, w21.frozen? ⟨w.heap.size, oo, none⟩ = false := fun oo => (hx21.frozen (by omega)).trans (hFo_20 oo)
  have hBxo_21 : Bx w21 (w7.heap.size) [(.slice A_xo1 (o.words).length c_xo1), .int .i64 o.block.pc, .int .i64 o.block.len, (.slice A_xo2 (o.block.ops).length c_xo2), .int .i64 o.block.fin, .int .i64 o.block.x, .int .i64 o.block.y, .int .i64 o.block.k] := hx21.bx hBxo_20 (by omega)
  have hFxo_21 : ∀ oo, w21.frozen? ⟨w7.heap.size, oo, none⟩ = false := fun oo => (hx21.frozen (by omega)).trans (hFxo_20 oo)
  clear hBo_20 hFo_20 hBxo_20 hFxo_20
  clear hy
  obtain ⟨A_zo1, c_zo1, rfl, -, -⟩ := ho_zo1.sl.form
  obtain ⟨A_zo2, c_zo2, rfl, -, -⟩ := ho_zo2.sl.form
  have fr_zo : Fr w20 w21 (F_zo1 ++ F_zo2) := hf_zo.mk1 (by first | exact Nat.le_refl _ | (simp; done)) (Nat.le_refl _)
  clear hf_zo
  go_wp2_with fail
  refine (implCacPut_any l o _ _ _ _ ((OwnSl.up ho_zl1 (fr_zl.mk1 (Nat.le_refl _) (by omega)) hx21).old (fr_zl.mk1 (Nat.le_refl _) (by omega))) ((OwnSl.up ho_zo1 (fr_zo.inl.mk1 (Nat.le_refl _) (by omega)) (Ext.refl _)).old (fr_zo.inl.mk1 (Nat.le_refl _) (by omega))) ((OwnSl.up ho_zo2 (fr_zo.inr.mk1 (Nat.le_refl _) (by omega)) (Ext.refl _)).old (fr_zo.inr.mk1 (Nat.le_refl _) (by omega))) hko (by omega)).mono ?_
  rintro e w22 ⟨r_h1, F_h1, rfl, ho_h1, hf_h, hy⟩
  have hx22 : Ext w21 w22 := Ext.trans (Ext.auto) hy
  have hs22 := hx22.size
  have he22 : Ext w w22 := he21.trans hx22
  have hBo_22 : Bx w22 (w.heap.size) [(.slice Ao1 o.words.length co1), .int .i64 o.block.pc, .int .i64 o.block.len, (.slice Ao2 o.block.ops.length co2), .int .i64 o.block.fin, .int .i64 o.block.x, .int .i64 o.block.y, .int .i64 o.block.k] := hx22.bx hBo_21 (by omega)
  have hFo_22 : ∀ oo, w22.frozen? ⟨w.heap.size, oo, none⟩ = false := fun oo => (hx22.frozen (by omega)).trans (hFo_21 oo)
  have hBxo_22 : Bx w22 (w7.heap.size) [(.slice A_xo1 (o.words).length c_xo1), .int .i64 o.block.pc, .int .i64 o.block.len, (.slice A_xo2 (o.block.ops).length c_xo2), .int .i64 o.block.fin, .int .i64 o.block.x, .int .i64 o.block.y, .int .i64 o.block.k] := hx22.bx hBxo_21 (by omega)
  have hFxo_22 : ∀ oo, w22.frozen? ⟨w7.heap.size, oo, none⟩ = false := fun oo => (hx22.frozen (by omega)).trans (hFxo_21 oo)
  clear hBo_21 hFo_21 hBxo_21 hFxo_21
  clear hy
  obtain ⟨A_h1, c_h1, rfl, -, -⟩ := ho_h1.sl.form
  have fr_h : Fr w21 w22 (F_h1) := hf_h.mk1 (by first | exact Nat.le_refl _ | (simp; done)) (Nat.le_refl _)
  clear hf_h
  go_wp2_with fail
  refine (eq_ListCacEntry (cacPut l o) (cacPut l o) _ _  _ ((OwnSl.up ho_h1 (fr_h.mk1 (Nat.le_refl _) (by omega)) (Ext.refl _)).old (fr_h.mk1 (Nat.le_refl _) (by omega))) ((OwnSl.up ho_w1 (fr_w.mk1 (Nat.le_refl _) (by omega)) (Ext.trans (Ext.trans (Ext.trans hx19 hx20) hx21) hx22)).old (fr_w.mk1 (Nat.le_refl _) (by omega)))).mono ?_
  rintro e w23 ⟨rfl, hy⟩
  have hx23 : Ext w22 w23 := Ext.trans (Ext.auto) hy
  have hs23 := hx23.size
  have he23 : Ext w w23 := he22.trans hx23
  have hBo_23 : Bx w23 (w.heap.size) [(.slice Ao1 o.words.length co1), .int .i64 o.block.pc, .int .i64 o.block.len, (.slice Ao2 o.block.ops.length co2), .int .i64 o.block.fin, .int .i64 o.block.x, .int .i64 o.block.y, .int .i64 o.block.k] := hx23.bx hBo_22 (by omega)
  have hFo_23 : ∀ oo, w23.frozen? ⟨w.heap.size, oo, none⟩ = false := fun oo => (hx23.frozen (by omega)).trans (hFo_22 oo)
  have hBxo_23 : Bx w23 (w7.heap.size) [(.slice A_xo1 (o.words).length c_xo1), .int .i64 o.block.pc, .int .i64 o.block.len, (.slice A_xo2 (o.block.ops).length c_xo2), .int .i64 o.block.fin, .int .i64 o.block.x, .int .i64 o.block.y, .int .i64 o.block.k] := hx23.bx hBxo_22 (by omega)
  have hFxo_23 : ∀ oo, w23.frozen? ⟨w7.heap.size, oo, none⟩ = false := fun oo => (hx23.frozen (by omega)).trans (hFxo_22 oo)
  clear hBo_22 hFo_22 hBxo_22 hFxo_22
  clear hy
  go_wp2_with fail
  refine (held_ListCacEntry (cacPut l o) _ (1) _ ((OwnSl.up hm_g1 (fr_g.mk1 (Nat.le_refl _) (by omega)) (Ext.trans (Ext.trans (Ext.trans (Ext.trans hx19 hx20) hx21) hx22) hx23)).old (fr_g.mk1 (Nat.le_refl _) (by omega))) (by omega) (by omega)).mono ?_
  rintro e w24 ⟨rfl, hy⟩
  have hx24 : Ext w23 w24 := Ext.trans (Ext.auto) hy
  have hs24 := hx24.size
  have he24 : Ext w w24 := he23.trans hx24
  have hBo_24 : Bx w24 (w.heap.size) [(.slice Ao1 o.words.length co1), .int .i64 o.block.pc, .int .i64 o.block.len, (.slice Ao2 o.block.ops.length co2), .int .i64 o.block.fin, .int .i64 o.block.x, .int .i64 o.block.y, .int .i64 o.block.k] := hx24.bx hBo_23 (by omega)
  have hFo_24 : ∀ oo, w24.frozen? ⟨w.heap.size, oo, none⟩ = false := fun oo => (hx24.frozen (by omega)).trans (hFo_23 oo)
  have hBxo_24 : Bx w24 (w7.heap.size) [(.slice A_xo1 (o.words).length c_xo1), .int .i64 o.block.pc, .int .i64 o.block.len, (.slice A_xo2 (o.block.ops).length c_xo2), .int .i64 o.block.fin, .int .i64 o.block.x, .int .i64 o.block.y, .int .i64 o.block.k] := hx24.bx hBxo_23 (by omega)
  have hFxo_24 : ∀ oo, w24.frozen? ⟨w7.heap.size, oo, none⟩ = false := fun oo => (hx24.frozen (by omega)).trans (hFxo_23 oo)
  clear hBo_23 hFo_23 hBxo_23 hFxo_23
  clear hy
  go_wp2
  go_ret
  exact ⟨rfl, he24⟩

end Go.Proofs.Ytjemadbhpbbhlaa
