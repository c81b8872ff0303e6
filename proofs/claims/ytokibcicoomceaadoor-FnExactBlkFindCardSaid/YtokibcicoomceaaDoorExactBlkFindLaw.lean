/-
  The law FnExactBlkFind returns true for every input.
-/
import Derived.Test.YtokibcicoomceaaDoorBlkFindS
import Derived.Test.YtokibcicoomceaaDoorBlkFindI
import Derived.Test.YtokibcicoomceaaDoorBFindP
import Derived.Test.YtokibcicoomceaaDoorTo
import Derived.Test.YtokibcicoomceaaDoorEq
import Derived.Test.YtokibcicoomceaaDoorSz
import Derived.Test.YtokibcicoomceaaDoorMark
import Derived.Test.YtokibcicoomceaaDoorMarkN
import Derived.Test.YtokibcicoomceaaDoorCt
import Derived.Test.YtokibcicoomceaaDoorRegLib
import Derived.Test.YtokibcicoomceaaDoorCertLib
namespace Go.Proofs.YtokibcicoomceaaDoor
open Go.RowKit

set_option linter.unusedVariables false
set_option linter.unusedSimpArgs false
set_option maxRecDepth 100000

set_option maxHeartbeats 16000000 in
theorem lawExactBlkFind_any (m : MchMach) (vm1 vm2 vm3 vm4 : Value) (w : World) (hm1 : Sl w (Old w) vm1 m.regs) (hm2 : Sl w (Old w) vm2 m.mem) (hm3 : Sl w (Old w) vm3 m.ins) (hm4 : Sl w (Old w) vm4 m.outs) (hkm : m.Ok) (lf : Nat) (hF : Forms lf w) :
    Calls Tryd.prog 6 #[.agg #[vm1, .int .i64 m.pc, vm2, .int .i64 m.save, .bool m.lets, .bool m.waits, .int .i64 m.halt, vm3, vm4, .int .i64 m.count]] w fun e w' => e = .returned (.bool true) ∧ Ext w w' := by
  obtain ⟨Am1, cm1, rfl, hlm1, hmm1⟩ := hm1.form
  obtain ⟨Am2, cm2, rfl, hlm2, hmm2⟩ := hm2.form
  obtain ⟨Am3, cm3, rfl, hlm3, hmm3⟩ := hm3.form
  obtain ⟨Am4, cm4, rfl, hlm4, hmm4⟩ := hm4.form
  have b1_ := blk_len m.regs
  have b2_ := blk_len m.mem
  have b3_ := blk_len m.ins
  have b4_ := blk_len m.outs
  have hbo_ : Bulk.blk m = Bulk.blk m.regs + Bulk.blk m.mem + Bulk.blk m.ins + Bulk.blk m.outs := rfl
  go_enter Tryd.func6, Tryd.ntmps6
  go_wp2_with fail
  have he0 : Ext w (w.alloc (Obj.cells #[(.slice Am1 m.regs.length cm1), .int .i64 m.pc, (.slice Am2 m.mem.length cm2), .int .i64 m.save, .bool m.lets, .bool m.waits, .int .i64 m.halt, (.slice Am3 m.ins.length cm3), (.slice Am4 m.outs.length cm4), .int .i64 m.count] 48)) := (Ext.auto)
  have hs0 : w.heap.size + 1 ≤ ((w.alloc (Obj.cells #[(.slice Am1 m.regs.length cm1), .int .i64 m.pc, (.slice Am2 m.mem.length cm2), .int .i64 m.save, .bool m.lets, .bool m.waits, .int .i64 m.halt, (.slice Am3 m.ins.length cm3), (.slice Am4 m.outs.length cm4), .int .i64 m.count] 48))).heap.size := by simp
  have hq0 := hide (show ((w.alloc (Obj.cells #[(.slice Am1 m.regs.length cm1), .int .i64 m.pc, (.slice Am2 m.mem.length cm2), .int .i64 m.save, .bool m.lets, .bool m.waits, .int .i64 m.halt, (.slice Am3 m.ins.length cm3), (.slice Am4 m.outs.length cm4), .int .i64 m.count] 48))).heap.size = w.heap.size + 1 by simp)
  have hBm_0 : Bx (w.alloc (Obj.cells #[(.slice Am1 m.regs.length cm1), .int .i64 m.pc, (.slice Am2 m.mem.length cm2), .int .i64 m.save, .bool m.lets, .bool m.waits, .int .i64 m.halt, (.slice Am3 m.ins.length cm3), (.slice Am4 m.outs.length cm4), .int .i64 m.count] 48)) (w.heap.size) [(.slice Am1 m.regs.length cm1), .int .i64 m.pc, (.slice Am2 m.mem.length cm2), .int .i64 m.save, .bool m.lets, .bool m.waits, .int .i64 m.halt, (.slice Am3 m.ins.length cm3), (.slice Am4 m.outs.length cm4), .int .i64 m.count] := (by have := (Bx.new w #[(.slice Am1 m.regs.length cm1), .int .i64 m.pc, (.slice Am2 m.mem.length cm2), .int .i64 m.save, .bool m.lets, .bool m.waits, .int .i64 m.halt, (.slice Am3 m.ins.length cm3), (.slice Am4 m.outs.length cm4), .int .i64 m.count] 48); simpa using this)
  have hFm_0 : ∀ oo, ((w.alloc (Obj.cells #[(.slice Am1 m.regs.length cm1), .int .i64 m.pc, (.slice Am2 m.mem.length cm2), .int .i64 m.save, .bool m.lets, .bool m.waits, .int .i64 m.halt, (.slice Am3 m.ins.length cm3), (.slice Am4 m.outs.length cm4), .int .i64 m.count] 48))).frozen? ⟨w.heap.size, oo, none⟩ = false := fun oo => by simp
  generalize (w.alloc (Obj.cells #[(.slice Am1 m.regs.length cm1), .int .i64 m.pc, (.slice Am2 m.mem.length cm2), .int .i64 m.save, .bool m.lets, .bool m.waits, .int .i64 m.halt, (.slice Am3 m.ins.length cm3), (.slice Am4 m.outs.length cm4), .int .i64 m.count] 48)) = w0 at *
  have ym : w.heap.size < w0.heap.size := by omega
  have xm0 := hBm_0 0 _ rfl
  have xm1 := hBm_0 1 _ rfl
  have xm2 := hBm_0 2 _ rfl
  have xm3 := hBm_0 3 _ rfl
  have xm4 := hBm_0 4 _ rfl
  have xm5 := hBm_0 5 _ rfl
  have xm6 := hBm_0 6 _ rfl
  have xm7 := hBm_0 7 _ rfl
  have xm8 := hBm_0 8 _ rfl
  have xm9 := hBm_0 9 _ rfl
  go_wp2_with fail
  clear xm0 xm1 xm2 xm3 xm4 xm5 xm6 xm7 xm8 xm9 ym
  refine (sz_MchMach m _ _ _ _ 1048576 _ (hm1.ext (Ext.trans he0 (Ext.auto))) (hm2.ext (Ext.trans he0 (Ext.auto))) (hm3.ext (Ext.trans he0 (Ext.auto))) (hm4.ext (Ext.trans he0 (Ext.auto))) (by omega) (by omega)).mono ?_
  rintro e w1 ⟨rzm, rfl, hr, hy⟩
  have hx1 : Ext w0 w1 := Ext.trans (Ext.auto) hy
  have hs1 := hx1.size
  have he1 : Ext w w1 := he0.trans hx1
  have hBm_1 : Bx w1 (w.heap.size) [(.slice Am1 m.regs.length cm1), .int .i64 m.pc, (.slice Am2 m.mem.length cm2), .int .i64 m.save, .bool m.lets, .bool m.waits, .int .i64 m.halt, (.slice Am3 m.ins.length cm3), (.slice Am4 m.outs.length cm4), .int .i64 m.count] := hx1.bx hBm_0 (by omega)
  have hFm_1 : ∀ oo, w1.frozen? ⟨w.heap.size, oo, none⟩ = false := fun oo => (hx1.frozen (by omega)).trans (hFm_0 oo)
  clear hBm_0 hFm_0
  clear hy
  rcases hr with ⟨hq, hl0⟩ | ⟨hq, hl0⟩
  rotate_left
  · have hz : rzm < 0 := by omega
    clear hq
    go_wp2
    go_ret
    exact ⟨rfl, he1⟩
  have hzm : 0 ≤ rzm := by omega
  have hym : rzm ≤ 1048576 := by omega
  have nm : Bulk.blk m ≤ 1048576 := by omega
  have mm : ((Bulk.blk m : Nat) : Int) ≤ 1048576 - rzm := by omega
  have HQm := hide hq
  clear hq hl0
  have ym : w.heap.size < w1.heap.size := by omega
  have xm0 := hBm_1 0 _ rfl
  have xm1 := hBm_1 1 _ rfl
  have xm2 := hBm_1 2 _ rfl
  have xm3 := hBm_1 3 _ rfl
  have xm4 := hBm_1 4 _ rfl
  have xm5 := hBm_1 5 _ rfl
  have xm6 := hBm_1 6 _ rfl
  have xm7 := hBm_1 7 _ rfl
  have xm8 := hBm_1 8 _ rfl
  have xm9 := hBm_1 9 _ rfl
  go_wp2_with fail
  clear xm0 xm1 xm2 xm3 xm4 xm5 xm6 xm7 xm8 xm9 ym
  refine (to_MchMach m _ _ _ _ _ (hm1.ext (Ext.trans he1 (Ext.auto))) (hm2.ext (Ext.trans he1 (Ext.auto))) (hm3.ext (Ext.trans he1 (Ext.auto))) (hm4.ext (Ext.trans he1 (Ext.auto))) nm).mono ?_
  rintro e w2 ⟨r_pm1, r_pm2, r_pm3, r_pm4, F_pm1, F_pm2, F_pm3, F_pm4, rfl, ho_pm1, ho_pm2, ho_pm3, ho_pm4, hf_pm, hy⟩
  have hx2 : Ext w1 w2 := Ext.trans (Ext.auto) hy
  have hs2 := hx2.size
  have he2 : Ext w w2 := he1.trans hx2
  have hBm_2 : Bx w2 (w.heap.size) [(.slice Am1 m.regs.length cm1), .int .i64 m.pc, (.slice Am2 m.mem.length cm2), .int .i64 m.save, .bool m.lets, .bool m.waits, .int .i64 m.halt, (.slice Am3 m.ins.length cm3), (.slice Am4 m.outs.length cm4), .int .i64 m.count] := hx2.bx hBm_1 (by omega)
  have hFm_2 : ∀ oo, w2.frozen? ⟨w.heap.size, oo, none⟩ = false := fun oo => (hx2.frozen (by omega)).trans (hFm_1 oo)
  clear hBm_1 hFm_1
  clear hy
  obtain ⟨A_pm1, c_pm1, rfl, -, -⟩ := ho_pm1.sl.form
  obtain ⟨A_pm2, c_pm2, rfl, -, -⟩ := ho_pm2.sl.form
  obtain ⟨A_pm3, c_pm3, rfl, -, -⟩ := ho_pm3.sl.form
  obtain ⟨A_pm4, c_pm4, rfl, -, -⟩ := ho_pm4.sl.form
  have fr_pm : Fr w1 w2 (F_pm1 ++ F_pm2 ++ F_pm3 ++ F_pm4) := hf_pm.mk1 (by first | exact Nat.le_refl _ | (simp; done)) (Nat.le_refl _)
  clear hf_pm
  go_wp2_with fail
  refine (specBlkFind_p m _ _ _ _ _ ((OwnSl.up ho_pm1 (fr_pm.inl.inl.inl.mk1 (Nat.le_refl _) (by omega)) (Ext.refl _)).old (fr_pm.inl.inl.inl.mk1 (Nat.le_refl _) (by omega))) ((OwnSl.up ho_pm2 (fr_pm.inl.inl.inr.mk1 (Nat.le_refl _) (by omega)) (Ext.refl _)).old (fr_pm.inl.inl.inr.mk1 (Nat.le_refl _) (by omega))) ((OwnSl.up ho_pm3 (fr_pm.inl.inr.mk1 (Nat.le_refl _) (by omega)) (Ext.refl _)).old (fr_pm.inl.inr.mk1 (Nat.le_refl _) (by omega))) ((OwnSl.up ho_pm4 (fr_pm.inr.mk1 (Nat.le_refl _) (by omega)) (Ext.refl _)).old (fr_pm.inr.mk1 (Nat.le_refl _) (by omega))) ).mono ?_
  rintro e w3 ⟨r_w1, F_w1, rfl, ho_w1, hf_w, hy⟩
  have hx3 : Ext w2 w3 := Ext.trans (Ext.auto) hy
  have hs3 := hx3.size
  have he3 : Ext w w3 := he2.trans hx3
  have hBm_3 : Bx w3 (w.heap.size) [(.slice Am1 m.regs.length cm1), .int .i64 m.pc, (.slice Am2 m.mem.length cm2), .int .i64 m.save, .bool m.lets, .bool m.waits, .int .i64 m.halt, (.slice Am3 m.ins.length cm3), (.slice Am4 m.outs.length cm4), .int .i64 m.count] := hx3.bx hBm_2 (by omega)
  have hFm_3 : ∀ oo, w3.frozen? ⟨w.heap.size, oo, none⟩ = false := fun oo => (hx3.frozen (by omega)).trans (hFm_2 oo)
  clear hBm_2 hFm_2
  clear hy
  obtain ⟨A_w1, c_w1, rfl, -, -⟩ := ho_w1.sl.form
  have fr_w : Fr w2 w3 (F_w1) := hf_w.mk1 (by first | exact Nat.le_refl _ | (simp; done)) (Nat.le_refl _)
  clear hf_w
  have ym : w.heap.size < w3.heap.size := by omega
  have xm0 := hBm_3 0 _ rfl
  have xm1 := hBm_3 1 _ rfl
  have xm2 := hBm_3 2 _ rfl
  have xm3 := hBm_3 3 _ rfl
  have xm4 := hBm_3 4 _ rfl
  have xm5 := hBm_3 5 _ rfl
  have xm6 := hBm_3 6 _ rfl
  have xm7 := hBm_3 7 _ rfl
  have xm8 := hBm_3 8 _ rfl
  have xm9 := hBm_3 9 _ rfl
  go_wp2_with fail
  clear xm0 xm1 xm2 xm3 xm4 xm5 xm6 xm7 xm8 xm9 ym
  refine (to_MchMach m _ _ _ _ _ (hm1.ext (Ext.trans he3 (Ext.auto))) (hm2.ext (Ext.trans he3 (Ext.auto))) (hm3.ext (Ext.trans he3 (Ext.auto))) (hm4.ext (Ext.trans he3 (Ext.auto))) nm).mono ?_
  rintro e w4 ⟨r_xm1, r_xm2, r_xm3, r_xm4, F_xm1, F_xm2, F_xm3, F_xm4, rfl, ho_xm1, ho_xm2, ho_xm3, ho_xm4, hf_xm, hy⟩
  have hx4 : Ext w3 w4 := Ext.trans (Ext.auto) hy
  have hs4 := hx4.size
  have he4 : Ext w w4 := he3.trans hx4
  have hBm_4 : Bx w4 (w.heap.size) [(.slice Am1 m.regs.length cm1), .int .i64 m.pc, (.slice Am2 m.mem.length cm2), .int .i64 m.save, .bool m.lets, .bool m.waits, .int .i64 m.halt, (.slice Am3 m.ins.length cm3), (.slice Am4 m.outs.length cm4), .int .i64 m.count] := hx4.bx hBm_3 (by omega)
  have hFm_4 : ∀ oo, w4.frozen? ⟨w.heap.size, oo, none⟩ = false := fun oo => (hx4.frozen (by omega)).trans (hFm_3 oo)
  clear hBm_3 hFm_3
  clear hy
  obtain ⟨A_xm1, c_xm1, rfl, -, -⟩ := ho_xm1.sl.form
  obtain ⟨A_xm2, c_xm2, rfl, -, -⟩ := ho_xm2.sl.form
  obtain ⟨A_xm3, c_xm3, rfl, -, -⟩ := ho_xm3.sl.form
  obtain ⟨A_xm4, c_xm4, rfl, -, -⟩ := ho_xm4.sl.form
  have fr_xm : Fr w3 w4 (F_xm1 ++ F_xm2 ++ F_xm3 ++ F_xm4) := hf_xm.mk1 (by first | exact Nat.le_refl _ | (simp; done)) (Nat.le_refl _)
  clear hf_xm
  go_wp2_with fail
  have hx5 : Ext w4 (w4.alloc (Obj.cells #[(.slice A_xm1 (m.regs).length c_xm1), .int .i64 m.pc, (.slice A_xm2 (m.mem).length c_xm2), .int .i64 m.save, .bool m.lets, .bool m.waits, .int .i64 m.halt, (.slice A_xm3 (m.ins).length c_xm3), (.slice A_xm4 (m.outs).length c_xm4), .int .i64 m.count] 51)) := (Ext.auto)
  have hs5 : w4.heap.size + 1 ≤ ((w4.alloc (Obj.cells #[(.slice A_xm1 (m.regs).length c_xm1), .int .i64 m.pc, (.slice A_xm2 (m.mem).length c_xm2), .int .i64 m.save, .bool m.lets, .bool m.waits, .int .i64 m.halt, (.slice A_xm3 (m.ins).length c_xm3), (.slice A_xm4 (m.outs).length c_xm4), .int .i64 m.count] 51))).heap.size := by simp
  have he5 : Ext w (w4.alloc (Obj.cells #[(.slice A_xm1 (m.regs).length c_xm1), .int .i64 m.pc, (.slice A_xm2 (m.mem).length c_xm2), .int .i64 m.save, .bool m.lets, .bool m.waits, .int .i64 m.halt, (.slice A_xm3 (m.ins).length c_xm3), (.slice A_xm4 (m.outs).length c_xm4), .int .i64 m.count] 51)) := he4.trans hx5
  have hBm_5 : Bx (w4.alloc (Obj.cells #[(.slice A_xm1 (m.regs).length c_xm1), .int .i64 m.pc, (.slice A_xm2 (m.mem).length c_xm2), .int .i64 m.save, .bool m.lets, .bool m.waits, .int .i64 m.halt, (.slice A_xm3 (m.ins).length c_xm3), (.slice A_xm4 (m.outs).length c_xm4), .int .i64 m.count] 51)) (w.heap.size) [(.slice Am1 m.regs.length cm1), .int .i64 m.pc, (.slice Am2 m.mem.length cm2), .int .i64 m.save, .bool m.lets, .bool m.waits, .int .i64 m.halt, (.slice Am3 m.ins.length cm3), (.slice Am4 m.outs.length cm4), .int .i64 m.count] := hx5.bx hBm_4 (by omega)
  have hFm_5 : ∀ oo, ((w4.alloc (Obj.cells #[(.slice A_xm1 (m.regs).length c_xm1), .int .i64 m.pc, (.slice A_xm2 (m.mem).length c_xm2), .int .i64 m.save, .bool m.lets, .bool m.waits, .int .i64 m.halt, (.slice A_xm3 (m.ins).length c_xm3), (.slice A_xm4 (m.outs).length c_xm4), .int .i64 m.count] 51))).frozen? ⟨w.heap.size, oo, none⟩ = false := fun oo => (hx5.frozen (by omega)).trans (hFm_4 oo)
  have hBxm_5 : Bx (w4.alloc (Obj.cells #[(.slice A_xm1 (m.regs).length c_xm1), .int .i64 m.pc, (.slice A_xm2 (m.mem).length c_xm2), .int .i64 m.save, .bool m.lets, .bool m.waits, .int .i64 m.halt, (.slice A_xm3 (m.ins).length c_xm3), (.slice A_xm4 (m.outs).length c_xm4), .int .i64 m.count] 51)) (w4.heap.size) [(.slice A_xm1 (m.regs).length c_xm1), .int .i64 m.pc, (.slice A_xm2 (m.mem).length c_xm2), .int .i64 m.save, .bool m.lets, .bool m.waits, .int .i64 m.halt, (.slice A_xm3 (m.ins).length c_xm3), (.slice A_xm4 (m.outs).length c_xm4), .int .i64 m.count] := by have := (by have := (Bx.new w4 #[(.slice A_xm1 (m.regs).length c_xm1), .int .i64 m.pc, (.slice A_xm2 (m.mem).length c_xm2), .int .i64 m.save, .bool m.lets, .bool m.waits, .int .i64 m.halt, (.slice A_xm3 (m.ins).length c_xm3), (.slice A_xm4 (m.outs).length c_xm4), .int .i64 m.count] 51); simpa using this); exact this
  have hFxm_5 : ∀ oo, ((w4.alloc (Obj.cells #[(.slice A_xm1 (m.regs).length c_xm1), .int .i64 m.pc, (.slice A_xm2 (m.mem).length c_xm2), .int .i64 m.save, .bool m.lets, .bool m.waits, .int .i64 m.halt, (.slice A_xm3 (m.ins).length c_xm3), (.slice A_xm4 (m.outs).length c_xm4), .int .i64 m.count] 51))).frozen? ⟨w4.heap.size, oo, none⟩ = false := fun oo => by simp
  generalize (w4.alloc (Obj.cells #[(.slice A_xm1 (m.regs).length c_xm1), .int .i64 m.pc, (.slice A_xm2 (m.mem).length c_xm2), .int .i64 m.save, .bool m.lets, .bool m.waits, .int .i64 m.halt, (.slice A_xm3 (m.ins).length c_xm3), (.slice A_xm4 (m.outs).length c_xm4), .int .i64 m.count] 51)) = w5 at *
  clear hBm_4 hFm_4
  refine (implBlkFind_p m _ _ _ _ _ ((OwnSl.up ho_xm1 (fr_xm.inl.inl.inl.mk1 (Nat.le_refl _) (by omega)) hx5).old (fr_xm.inl.inl.inl.mk1 (Nat.le_refl _) (by omega))) ((OwnSl.up ho_xm2 (fr_xm.inl.inl.inr.mk1 (Nat.le_refl _) (by omega)) hx5).old (fr_xm.inl.inl.inr.mk1 (Nat.le_refl _) (by omega))) ((OwnSl.up ho_xm3 (fr_xm.inl.inr.mk1 (Nat.le_refl _) (by omega)) hx5).old (fr_xm.inl.inr.mk1 (Nat.le_refl _) (by omega))) ((OwnSl.up ho_xm4 (fr_xm.inr.mk1 (Nat.le_refl _) (by omega)) hx5).old (fr_xm.inr.mk1 (Nat.le_refl _) (by omega))) lf (hF.ext (Ext.trans he5 (Ext.auto)))).mono ?_
  rintro e w6 ⟨r_g1, F_g1, rfl, ho_g1, hf_g, hy⟩
  have hx6 : Ext w5 w6 := Ext.trans (Ext.auto) hy
  have hs6 := hx6.size
  have he6 : Ext w w6 := he5.trans hx6
  have hBm_6 : Bx w6 (w.heap.size) [(.slice Am1 m.regs.length cm1), .int .i64 m.pc, (.slice Am2 m.mem.length cm2), .int .i64 m.save, .bool m.lets, .bool m.waits, .int .i64 m.halt, (.slice Am3 m.ins.length cm3), (.slice Am4 m.outs.length cm4), .int .i64 m.count] := hx6.bx hBm_5 (by omega)
  have hFm_6 : ∀ oo, w6.frozen? ⟨w.heap.size, oo, none⟩ = false := fun oo => (hx6.frozen (by omega)).trans (hFm_5 oo)
  have hBxm_6 : Bx w6 (w4.heap.size) [(.slice A_xm1 (m.regs).length c_xm1), .int .i64 m.pc, (.slice A_xm2 (m.mem).length c_xm2), .int .i64 m.save, .bool m.lets, .bool m.waits, .int .i64 m.halt, (.slice A_xm3 (m.ins).length c_xm3), (.slice A_xm4 (m.outs).length c_xm4), .int .i64 m.count] := hx6.bx hBxm_5 (by omega)
  have hFxm_6 : ∀ oo, w6.frozen? ⟨w4.heap.size, oo, none⟩ = false := fun oo => (hx6.frozen (by omega)).trans (hFxm_5 oo)
  clear hBm_5 hFm_5 hBxm_5 hFxm_5
  clear hy
  obtain ⟨A_g1, c_g1, rfl, -, -⟩ := ho_g1.sl.form
  have fr_g : Fr w5 w6 (F_g1) := hf_g.mk1 (by first | exact Nat.le_refl _ | (simp; done)) (Nat.le_refl _)
  clear hf_g
  go_wp2_with fail
  refine (eq_ListInsIns ((blkFind m)) ((blkFind m)) _ _  _ ((OwnSl.up ho_g1 (fr_g.mk1 (Nat.le_refl _) (by omega)) (Ext.refl _)).old (fr_g.mk1 (Nat.le_refl _) (by omega))) ((OwnSl.up ho_w1 (fr_w.mk1 (Nat.le_refl _) (by omega)) (Ext.trans (Ext.trans hx4 hx5) hx6)).old (fr_w.mk1 (Nat.le_refl _) (by omega)))).mono ?_
  rintro e w7 ⟨rfl, hy⟩
  have hx7 : Ext w6 w7 := Ext.trans (Ext.auto) hy
  have hs7 := hx7.size
  have he7 : Ext w w7 := he6.trans hx7
  have hBm_7 : Bx w7 (w.heap.size) [(.slice Am1 m.regs.length cm1), .int .i64 m.pc, (.slice Am2 m.mem.length cm2), .int .i64 m.save, .bool m.lets, .bool m.waits, .int .i64 m.halt, (.slice Am3 m.ins.length cm3), (.slice Am4 m.outs.length cm4), .int .i64 m.count] := hx7.bx hBm_6 (by omega)
  have hFm_7 : ∀ oo, w7.frozen? ⟨w.heap.size, oo, none⟩ = false := fun oo => (hx7.frozen (by omega)).trans (hFm_6 oo)
  have hBxm_7 : Bx w7 (w4.heap.size) [(.slice A_xm1 (m.regs).length c_xm1), .int .i64 m.pc, (.slice A_xm2 (m.mem).length c_xm2), .int .i64 m.save, .bool m.lets, .bool m.waits, .int .i64 m.halt, (.slice A_xm3 (m.ins).length c_xm3), (.slice A_xm4 (m.outs).length c_xm4), .int .i64 m.count] := hx7.bx hBxm_6 (by omega)
  have hFxm_7 : ∀ oo, w7.frozen? ⟨w4.heap.size, oo, none⟩ = false := fun oo => (hx7.frozen (by omega)).trans (hFxm_6 oo)
  clear hBm_6 hFm_6 hBxm_6 hFxm_6
  clear hy
  go_wp2_with fail
  have yxm : w4.heap.size < w7.heap.size := by omega
  have xxm0 := hBxm_7 0 _ rfl
  have xxm1 := hBxm_7 1 _ rfl
  have xxm2 := hBxm_7 2 _ rfl
  have xxm3 := hBxm_7 3 _ rfl
  have xxm4 := hBxm_7 4 _ rfl
  have xxm5 := hBxm_7 5 _ rfl
  have xxm6 := hBxm_7 6 _ rfl
  have xxm7 := hBxm_7 7 _ rfl
  have xxm8 := hBxm_7 8 _ rfl
  have xxm9 := hBxm_7 9 _ rfl
  have ym : w.heap.size < w7.heap.size := by omega
  have xm0 := hBm_7 0 _ rfl
  have xm1 := hBm_7 1 _ rfl
  have xm2 := hBm_7 2 _ rfl
  have xm3 := hBm_7 3 _ rfl
  have xm4 := hBm_7 4 _ rfl
  have xm5 := hBm_7 5 _ rfl
  have xm6 := hBm_7 6 _ rfl
  have xm7 := hBm_7 7 _ rfl
  have xm8 := hBm_7 8 _ rfl
  have xm9 := hBm_7 9 _ rfl
  have hS : ∀ w', Ext w7 w' → ∀ bb oo, bb < w7.heap.size → w'.cell? ⟨bb, oo, none⟩ = w7.cell? ⟨bb, oo, none⟩ := fun w' hx bb oo hb => hx.cell hb
  refine wp_region_plan (fun w' => Ext w7 w') 3 (.float 0 (.float 1 (.chain 2 (.tail 3)))) (by kernel_rfl) (by kernel_rfl) (Ext.refl _).drew ?_
  iterate 2 ((refine Plan.float_step (v := ?_) rfl (by rfl) (fun _ _ _ h => h) (fun w' hSw => ?_) ?_; rotate_left; · (go_simp; try with_reducible rfl)); (try simp only [Act.put, List.setIfInBounds_toArray, List.set_cons_zero, List.set_cons_succ]))
  refine Plan.chain_step rfl (fun K hK => ?_)
  go_simp
  refine (to_MchMach m _ _ _ _ _ (hm1.ext (Ext.trans he7 (Ext.auto))) (hm2.ext (Ext.trans he7 (Ext.auto))) (hm3.ext (Ext.trans he7 (Ext.auto))) (hm4.ext (Ext.trans he7 (Ext.auto))) nm).mono ?_
  rintro e w8 ⟨r_ym1, r_ym2, r_ym3, r_ym4, F_ym1, F_ym2, F_ym3, F_ym4, rfl, ho_ym1, ho_ym2, ho_ym3, ho_ym4, hf_ym, hy⟩
  refine hK.out _ _ (Ext.trans (Ext.auto) hy) ?_
  clear hK
  (try simp only [Act.put, List.setIfInBounds_toArray, List.set_cons_zero, List.set_cons_succ])
  have hx8 : Ext w7 w8 := Ext.trans (Ext.auto) hy
  have hs8 := hx8.size
  have he8 : Ext w w8 := he7.trans hx8
  have hBm_8 : Bx w8 (w.heap.size) [(.slice Am1 m.regs.length cm1), .int .i64 m.pc, (.slice Am2 m.mem.length cm2), .int .i64 m.save, .bool m.lets, .bool m.waits, .int .i64 m.halt, (.slice Am3 m.ins.length cm3), (.slice Am4 m.outs.length cm4), .int .i64 m.count] := hx8.bx hBm_7 (by omega)
  have hFm_8 : ∀ oo, w8.frozen? ⟨w.heap.size, oo, none⟩ = false := fun oo => (hx8.frozen (by omega)).trans (hFm_7 oo)
  have hBxm_8 : Bx w8 (w4.heap.size) [(.slice A_xm1 (m.regs).length c_xm1), .int .i64 m.pc, (.slice A_xm2 (m.mem).length c_xm2), .int .i64 m.save, .bool m.lets, .bool m.waits, .int .i64 m.halt, (.slice A_xm3 (m.ins).length c_xm3), (.slice A_xm4 (m.outs).length c_xm4), .int .i64 m.count] := hx8.bx hBxm_7 (by omega)
  have hFxm_8 : ∀ oo, w8.frozen? ⟨w4.heap.size, oo, none⟩ = false := fun oo => (hx8.frozen (by omega)).trans (hFxm_7 oo)
  clear hBm_7 hFm_7 hBxm_7 hFxm_7
  clear hy
  obtain ⟨A_ym1, c_ym1, rfl, -, -⟩ := ho_ym1.sl.form
  obtain ⟨A_ym2, c_ym2, rfl, -, -⟩ := ho_ym2.sl.form
  obtain ⟨A_ym3, c_ym3, rfl, -, -⟩ := ho_ym3.sl.form
  obtain ⟨A_ym4, c_ym4, rfl, -, -⟩ := ho_ym4.sl.form
  have fr_ym : Fr w7 w8 (F_ym1 ++ F_ym2 ++ F_ym3 ++ F_ym4) := hf_ym.mk1 (by first | exact Nat.le_refl _ | (simp; done)) (Nat.le_refl _)
  clear hf_ym
  refine Plan.tail_step ?_
  simp only [List.drop_succ_cons, List.drop_zero]
  clear hS
  clear xxm0 xxm1 xxm2 xxm3 xxm4 xxm5 xxm6 xxm7 xxm8 xxm9 yxm
  clear xm0 xm1 xm2 xm3 xm4 xm5 xm6 xm7 xm8 xm9 ym
  go_wp2_with fail
  refine (eq_MchMach m m _ _ _ _ _ _ _ _  _ ((OwnSl.up ho_xm1 (fr_xm.inl.inl.inl.mk1 (Nat.le_refl _) (by omega)) (Ext.trans (Ext.trans (Ext.trans hx5 hx6) hx7) hx8)).old (fr_xm.inl.inl.inl.mk1 (Nat.le_refl _) (by omega))) ((OwnSl.up ho_xm2 (fr_xm.inl.inl.inr.mk1 (Nat.le_refl _) (by omega)) (Ext.trans (Ext.trans (Ext.trans hx5 hx6) hx7) hx8)).old (fr_xm.inl.inl.inr.mk1 (Nat.le_refl _) (by omega))) ((OwnSl.up ho_xm3 (fr_xm.inl.inr.mk1 (Nat.le_refl _) (by omega)) (Ext.trans (Ext.trans (Ext.trans hx5 hx6) hx7) hx8)).old (fr_xm.inl.inr.mk1 (Nat.le_refl _) (by omega))) ((OwnSl.up ho_xm4 (fr_xm.inr.mk1 (Nat.le_refl _) (by omega)) (Ext.trans (Ext.trans (Ext.trans hx5 hx6) hx7) hx8)).old (fr_xm.inr.mk1 (Nat.le_refl _) (by omega))) ((OwnSl.up ho_ym1 (fr_ym.inl.inl.inl.mk1 (Nat.le_refl _) (by omega)) (Ext.refl _)).old (fr_ym.inl.inl.inl.mk1 (Nat.le_refl _) (by omega))) ((OwnSl.up ho_ym2 (fr_ym.inl.inl.inr.mk1 (Nat.le_refl _) (by omega)) (Ext.refl _)).old (fr_ym.inl.inl.inr.mk1 (Nat.le_refl _) (by omega))) ((OwnSl.up ho_ym3 (fr_ym.inl.inr.mk1 (Nat.le_refl _) (by omega)) (Ext.refl _)).old (fr_ym.inl.inr.mk1 (Nat.le_refl _) (by omega))) ((OwnSl.up ho_ym4 (fr_ym.inr.mk1 (Nat.le_refl _) (by omega)) (Ext.refl _)).old (fr_ym.inr.mk1 (Nat.le_refl _) (by omega)))).mono ?_
  rintro e w9 ⟨rfl, hy⟩
  have hx9 : Ext w8 w9 := Ext.trans (Ext.auto) hy
  have hs9 := hx9.size
  have he9 : Ext w w9 := he8.trans hx9
  have hBm_9 : Bx w9 (w.heap.size) [(.slice Am1 m.regs.length cm1), .int .i64 m.pc, (.slice Am2 m.mem.length cm2), .int .i64 m.save, .bool m.lets, .bool m.waits, .int .i64 m.halt, (.slice Am3 m.ins.length cm3), (.slice Am4 m.outs.length cm4), .int .i64 m.count] := hx9.bx hBm_8 (by omega)
  have hFm_9 : ∀ oo, w9.frozen? ⟨w.heap.size, oo, none⟩ = false := fun oo => (hx9.frozen (by omega)).trans (hFm_8 oo)
  have hBxm_9 : Bx w9 (w4.heap.size) [(.slice A_xm1 (m.regs).length c_xm1), .int .i64 m.pc, (.slice A_xm2 (m.mem).length c_xm2), .int .i64 m.save, .bool m.lets, .bool m.waits, .int .i64 m.halt, (.slice A_xm3 (m.ins).length c_xm3), (.slice A_xm4 (m.outs).length c_xm4), .int .i64 m.count] := hx9.bx hBxm_8 (by omega)
  have hFxm_9 : ∀ oo, w9.frozen? ⟨w4.heap.size, oo, none⟩ = false := fun oo => (hx9.frozen (by omega)).trans (hFxm_8 oo)
  clear hBm_8 hFm_8 hBxm_8 hFxm_8
  clear hy
  clear ho_ym1 ho_ym2 ho_ym3 ho_ym4 fr_ym
  clear ho_pm1 ho_pm2 ho_pm3 ho_pm4 fr_pm
  have hct_xm := MchMach.ctV_le (m)
  have yxm : w4.heap.size < w9.heap.size := by omega
  have xxm0 := hBxm_9 0 _ rfl
  have xxm1 := hBxm_9 1 _ rfl
  have xxm2 := hBxm_9 2 _ rfl
  have xxm3 := hBxm_9 3 _ rfl
  have xxm4 := hBxm_9 4 _ rfl
  have xxm5 := hBxm_9 5 _ rfl
  have xxm6 := hBxm_9 6 _ rfl
  have xxm7 := hBxm_9 7 _ rfl
  have xxm8 := hBxm_9 8 _ rfl
  have xxm9 := hBxm_9 9 _ rfl
  go_wp2_with fail
  clear xxm0 xxm1 xxm2 xxm3 xxm4 xxm5 xxm6 xxm7 xxm8 xxm9 yxm
  refine (mark_MchMach (m) _ _ _ _ _ _ _ _ (1) _ (OwnSl.up ho_xm1 (fr_xm.inl.inl.inl.mk1 (Nat.le_refl _) (by omega)) (Ext.trans (Ext.trans (Ext.trans (Ext.trans hx5 hx6) hx7) hx8) hx9)) (OwnSl.up ho_xm2 (fr_xm.inl.inl.inr.mk1 (Nat.le_refl _) (by omega)) (Ext.trans (Ext.trans (Ext.trans (Ext.trans hx5 hx6) hx7) hx8) hx9)) (OwnSl.up ho_xm3 (fr_xm.inl.inr.mk1 (Nat.le_refl _) (by omega)) (Ext.trans (Ext.trans (Ext.trans (Ext.trans hx5 hx6) hx7) hx8) hx9)) (OwnSl.up ho_xm4 (fr_xm.inr.mk1 (Nat.le_refl _) (by omega)) (Ext.trans (Ext.trans (Ext.trans (Ext.trans hx5 hx6) hx7) hx8) hx9)) fr_xm.1 (fun x hx => by have := (fr_xm.2 x hx).2; omega) (by omega) (by omega)).mono ?_
  rintro e w10 ⟨rfl, hm_xm1, hm_xm2, hm_xm3, hm_xm4, hy⟩
  have hc10 : Chg (F_xm1 ++ F_xm2 ++ F_xm3 ++ F_xm4) w9 w10 := hy
  have hs10 := hc10.size
  have he10 : Ext w w10 := Chg.ext he9 hc10 (fun x hx => by have := (fr_xm.2 x hx).1; omega)
  have hBm_10 : Bx w10 (w.heap.size) [(.slice Am1 m.regs.length cm1), .int .i64 m.pc, (.slice Am2 m.mem.length cm2), .int .i64 m.save, .bool m.lets, .bool m.waits, .int .i64 m.halt, (.slice Am3 m.ins.length cm3), (.slice Am4 m.outs.length cm4), .int .i64 m.count] := fun j u hu => (hc10.cell (by omega) (by intro hm; have := (fr_xm.2 _ hm); have h1 := this.1; have h2 := this.2; omega)).trans (hBm_9 j u hu)
  have hFm_10 : ∀ oo, w10.frozen? ⟨w.heap.size, oo, none⟩ = false := fun oo => (hc10.frozen _ _ (by omega)).trans (hFm_9 oo)
  have hBxm_10 : Bx w10 (w4.heap.size) [(.slice A_xm1 (m.regs).length c_xm1), .int .i64 m.pc, (.slice A_xm2 (m.mem).length c_xm2), .int .i64 m.save, .bool m.lets, .bool m.waits, .int .i64 m.halt, (.slice A_xm3 (m.ins).length c_xm3), (.slice A_xm4 (m.outs).length c_xm4), .int .i64 m.count] := fun j u hu => (hc10.cell (by omega) (by intro hm; have := (fr_xm.2 _ hm); have h1 := this.1; have h2 := this.2; omega)).trans (hBxm_9 j u hu)
  have hFxm_10 : ∀ oo, w10.frozen? ⟨w4.heap.size, oo, none⟩ = false := fun oo => (hc10.frozen _ _ (by omega)).trans (hFxm_9 oo)
  clear hBm_9 hFm_9 hBxm_9 hFxm_9
  have ho_w1' := (OwnSl.up ho_w1 (fr_w.mk1 (Nat.le_refl _) (by omega)) (Ext.trans (Ext.trans (Ext.trans (Ext.trans (Ext.trans hx4 hx5) hx6) hx7) hx8) hx9)).past fr_w (by omega) hc10 (fun x hx => (fr_w.apart fr_xm (by omega)) x (by simp [hx]))
  clear ho_w1
  have ho_w1 := ho_w1'
  clear ho_w1'
  have ho_g1' := (OwnSl.up ho_g1 (fr_g.mk1 (Nat.le_refl _) (by omega)) (Ext.trans (Ext.trans hx7 hx8) hx9)).past fr_g (by omega) hc10 (fun x hx => (fr_g.apart' fr_xm (by omega)) x (by simp [hx]))
  clear ho_g1
  have ho_g1 := ho_g1'
  clear ho_g1'
  clear hy
  go_wp2_with fail
  refine (eq_ListInsIns ((blkFind m)) ((blkFind m)) _ _  _ ((OwnSl.up ho_g1 (fr_g.mk1 (Nat.le_refl _) (by omega)) (Ext.refl _)).old (fr_g.mk1 (Nat.le_refl _) (by omega))) ((OwnSl.up ho_w1 (fr_w.mk1 (Nat.le_refl _) (by omega)) (Ext.refl _)).old (fr_w.mk1 (Nat.le_refl _) (by omega)))).mono ?_
  rintro e w11 ⟨rfl, hy⟩
  have hx11 : Ext w10 w11 := Ext.trans (Ext.auto) hy
  have hs11 := hx11.size
  have he11 : Ext w w11 := he10.trans hx11
  have hBm_11 : Bx w11 (w.heap.size) [(.slice Am1 m.regs.length cm1), .int .i64 m.pc, (.slice Am2 m.mem.length cm2), .int .i64 m.save, .bool m.lets, .bool m.waits, .int .i64 m.halt, (.slice Am3 m.ins.length cm3), (.slice Am4 m.outs.length cm4), .int .i64 m.count] := hx11.bx hBm_10 (by omega)
  have hFm_11 : ∀ oo, w11.frozen? ⟨w.heap.size, oo, none⟩ = false := fun oo => (hx11.frozen (by omega)).trans (hFm_10 oo)
  have hBxm_11 : Bx w11 (w4.heap.size) [(.slice A_xm1 (m.regs).length c_xm1), .int .i64 m.pc, (.slice A_xm2 (m.mem).length c_xm2), .int .i64 m.save, .bool m.lets, .bool m.waits, .int .i64 m.halt, (.slice A_xm3 (m.ins).length c_xm3), (.slice A_xm4 (m.outs).length c_xm4), .int .i64 m.count] := hx11.bx hBxm_10 (by omega)
  have hFxm_11 : ∀ oo, w11.frozen? ⟨w4.heap.size, oo, none⟩ = false := fun oo => (hx11.frozen (by omega)).trans (hFxm_10 oo)
  clear hBm_10 hFm_10 hBxm_10 hFxm_10
  clear hy
  clear hm_xm1 hm_xm2 hm_xm3 hm_xm4 fr_xm
  have hct_g := ct_le ((blkFind m))
  have hrb := blk_blkFind m
  go_wp2_with fail
  refine (mark_ListInsIns ((blkFind m)) _ _ (1) _ (OwnSl.up ho_g1 (fr_g.mk1 (Nat.le_refl _) (by omega)) hx11) fr_g.1 (fun x hx => by have := (fr_g.2 x hx).2; omega) (by omega) (by omega)).mono ?_
  rintro e w12 ⟨rfl, hm_g1, hy⟩
  have hc12 : Chg F_g1 w11 w12 := hy
  have hs12 := hc12.size
  have he12 : Ext w w12 := Chg.ext he11 hc12 (fun x hx => by have := (fr_g.2 x hx).1; omega)
  have hBm_12 : Bx w12 (w.heap.size) [(.slice Am1 m.regs.length cm1), .int .i64 m.pc, (.slice Am2 m.mem.length cm2), .int .i64 m.save, .bool m.lets, .bool m.waits, .int .i64 m.halt, (.slice Am3 m.ins.length cm3), (.slice Am4 m.outs.length cm4), .int .i64 m.count] := fun j u hu => (hc12.cell (by omega) (by intro hm; have := (fr_g.2 _ hm); have h1 := this.1; have h2 := this.2; omega)).trans (hBm_11 j u hu)
  have hFm_12 : ∀ oo, w12.frozen? ⟨w.heap.size, oo, none⟩ = false := fun oo => (hc12.frozen _ _ (by omega)).trans (hFm_11 oo)
  have hBxm_12 : Bx w12 (w4.heap.size) [(.slice A_xm1 (m.regs).length c_xm1), .int .i64 m.pc, (.slice A_xm2 (m.mem).length c_xm2), .int .i64 m.save, .bool m.lets, .bool m.waits, .int .i64 m.halt, (.slice A_xm3 (m.ins).length c_xm3), (.slice A_xm4 (m.outs).length c_xm4), .int .i64 m.count] := fun j u hu => (hc12.cell (by omega) (by intro hm; have := (fr_g.2 _ hm); have h1 := this.1; have h2 := this.2; omega)).trans (hBxm_11 j u hu)
  have hFxm_12 : ∀ oo, w12.frozen? ⟨w4.heap.size, oo, none⟩ = false := fun oo => (hc12.frozen _ _ (by omega)).trans (hFxm_11 oo)
  clear hBm_11 hFm_11 hBxm_11 hFxm_11
  have ho_w1' := (OwnSl.up ho_w1 (fr_w.mk1 (Nat.le_refl _) (by omega)) hx11).past fr_w (by omega) hc12 (fun x hx => (fr_w.apart fr_g (by omega)) x (by simp [hx]))
  clear ho_w1
  have ho_w1 := ho_w1'
  clear ho_w1'
  clear hy
  go_wp2_with fail
  refine (held_ListInsIns ((blkFind m)) _ (1) _ ((OwnSl.up hm_g1 (fr_g.mk1 (Nat.le_refl _) (by omega)) (Ext.refl _)).old (fr_g.mk1 (Nat.le_refl _) (by omega))) (by omega) (by omega)).mono ?_
  rintro e w13 ⟨rfl, hy⟩
  have hx13 : Ext w12 w13 := Ext.trans (Ext.auto) hy
  have hs13 := hx13.size
  have he13 : Ext w w13 := he12.trans hx13
  have hBm_13 : Bx w13 (w.heap.size) [(.slice Am1 m.regs.length cm1), .int .i64 m.pc, (.slice Am2 m.mem.length cm2), .int .i64 m.save, .bool m.lets, .bool m.waits, .int .i64 m.halt, (.slice Am3 m.ins.length cm3), (.slice Am4 m.outs.length cm4), .int .i64 m.count] := hx13.bx hBm_12 (by omega)
  have hFm_13 : ∀ oo, w13.frozen? ⟨w.heap.size, oo, none⟩ = false := fun oo => (hx13.frozen (by omega)).trans (hFm_12 oo)
  have hBxm_13 : Bx w13 (w4.heap.size) [(.slice A_xm1 (m.regs).length c_xm1), .int .i64 m.pc, (.slice A_xm2 (m.mem).length c_xm2), .int .i64 m.save, .bool m.lets, .bool m.waits, .int .i64 m.halt, (.slice A_xm3 (m.ins).length c_xm3), (.slice A_xm4 (m.outs).length c_xm4), .int .i64 m.count] := hx13.bx hBxm_12 (by omega)
  have hFxm_13 : ∀ oo, w13.frozen? ⟨w4.heap.size, oo, none⟩ = false := fun oo => (hx13.frozen (by omega)).trans (hFxm_12 oo)
  clear hBm_12 hFm_12 hBxm_12 hFxm_12
  clear hy
  have ym : w.heap.size < w13.heap.size := by omega
  have xm0 := hBm_13 0 _ rfl
  have xm1 := hBm_13 1 _ rfl
  have xm2 := hBm_13 2 _ rfl
  have xm3 := hBm_13 3 _ rfl
  have xm4 := hBm_13 4 _ rfl
  have xm5 := hBm_13 5 _ rfl
  have xm6 := hBm_13 6 _ rfl
  have xm7 := hBm_13 7 _ rfl
  have xm8 := hBm_13 8 _ rfl
  have xm9 := hBm_13 9 _ rfl
  go_wp2_with fail
  clear xm0 xm1 xm2 xm3 xm4 xm5 xm6 xm7 xm8 xm9 ym
  refine (to_MchMach m _ _ _ _ _ (hm1.ext (Ext.trans he13 (Ext.auto))) (hm2.ext (Ext.trans he13 (Ext.auto))) (hm3.ext (Ext.trans he13 (Ext.auto))) (hm4.ext (Ext.trans he13 (Ext.auto))) nm).mono ?_
  rintro e w14 ⟨r_zm1, r_zm2, r_zm3, r_zm4, F_zm1, F_zm2, F_zm3, F_zm4, rfl, ho_zm1, ho_zm2, ho_zm3, ho_zm4, hf_zm, hy⟩
  have hx14 : Ext w13 w14 := Ext.trans (Ext.auto) hy
  have hs14 := hx14.size
  have he14 : Ext w w14 := he13.trans hx14
  have hBm_14 : Bx w14 (w.heap.size) [(.slice Am1 m.regs.length cm1), .int .i64 m.pc, (.slice Am2 m.mem.length cm2), .int .i64 m.save, .bool m.lets, .bool m.waits, .int .i64 m.halt, (.slice Am3 m.ins.length cm3), (.slice Am4 m.outs.length cm4), .int .i64 m.count] := hx14.bx hBm_13 (by omega)
  have hFm_14 : ∀ oo, w14.frozen? ⟨w.heap.size, oo, none⟩ = false := fun oo => (hx14.frozen (by omega)).trans (hFm_13 oo)
  have hBxm_14 : Bx w14 (w4.heap.size) [(.slice A_xm1 (m.regs).length c_xm1), .int .i64 m.pc, (.slice A_xm2 (m.mem).length c_xm2), .int .i64 m.save, .bool m.lets, .bool m.waits, .int .i64 m.halt, (.slice A_xm3 (m.ins).length c_xm3), (.slice A_xm4 (m.outs).length c_xm4), .int .i64 m.count] := hx14.bx hBxm_13 (by omega)
  have hFxm_14 : ∀ oo, w14.frozen? ⟨w4.heap.size, oo, none⟩ = false := fun oo => (hx14.frozen (by omega)).trans (hFxm_13 oo)
  clear hBm_13 hFm_13 hBxm_13 hFxm_13
  clear hy
  obtain ⟨A_zm1, c_zm1, rfl, -, -⟩ := ho_zm1.sl.form
  obtain ⟨A_zm2, c_zm2, rfl, -, -⟩ := ho_zm2.sl.form
  obtain ⟨A_zm3, c_zm3, rfl, -, -⟩ := ho_zm3.sl.form
  obtain ⟨A_zm4, c_zm4, rfl, -, -⟩ := ho_zm4.sl.form
  have fr_zm : Fr w13 w14 (F_zm1 ++ F_zm2 ++ F_zm3 ++ F_zm4) := hf_zm.mk1 (by first | exact Nat.le_refl _ | (simp; done)) (Nat.le_refl _)
  clear hf_zm
  go_wp2_with fail
  refine (implBlkFind_p m _ _ _ _ _ ((OwnSl.up ho_zm1 (fr_zm.inl.inl.inl.mk1 (Nat.le_refl _) (by omega)) (Ext.refl _)).old (fr_zm.inl.inl.inl.mk1 (Nat.le_refl _) (by omega))) ((OwnSl.up ho_zm2 (fr_zm.inl.inl.inr.mk1 (Nat.le_refl _) (by omega)) (Ext.refl _)).old (fr_zm.inl.inl.inr.mk1 (Nat.le_refl _) (by omega))) ((OwnSl.up ho_zm3 (fr_zm.inl.inr.mk1 (Nat.le_refl _) (by omega)) (Ext.refl _)).old (fr_zm.inl.inr.mk1 (Nat.le_refl _) (by omega))) ((OwnSl.up ho_zm4 (fr_zm.inr.mk1 (Nat.le_refl _) (by omega)) (Ext.refl _)).old (fr_zm.inr.mk1 (Nat.le_refl _) (by omega))) lf (hF.ext (Ext.trans he14 (Ext.auto)))).mono ?_
  rintro e w15 ⟨r_h1, F_h1, rfl, ho_h1, hf_h, hy⟩
  have hx15 : Ext w14 w15 := Ext.trans (Ext.auto) hy
  have hs15 := hx15.size
  have he15 : Ext w w15 := he14.trans hx15
  have hBm_15 : Bx w15 (w.heap.size) [(.slice Am1 m.regs.length cm1), .int .i64 m.pc, (.slice Am2 m.mem.length cm2), .int .i64 m.save, .bool m.lets, .bool m.waits, .int .i64 m.halt, (.slice Am3 m.ins.length cm3), (.slice Am4 m.outs.length cm4), .int .i64 m.count] := hx15.bx hBm_14 (by omega)
  have hFm_15 : ∀ oo, w15.frozen? ⟨w.heap.size, oo, none⟩ = false := fun oo => (hx15.frozen (by omega)).trans (hFm_14 oo)
  have hBxm_15 : Bx w15 (w4.heap.size) [(.slice A_xm1 (m.regs).length c_xm1), .int .i64 m.pc, (.slice A_xm2 (m.mem).length c_xm2), .int .i64 m.save, .bool m.lets, .bool m.waits, .int .i64 m.halt, (.slice A_xm3 (m.ins).length c_xm3), (.slice A_xm4 (m.outs).length c_xm4), .int .i64 m.count] := hx15.bx hBxm_14 (by omega)
  have hFxm_15 : ∀ oo, w15.frozen? ⟨w4.heap.size, oo, none⟩ = false := fun oo => (hx15.frozen (by omega)).trans (hFxm_14 oo)
  clear hBm_14 hFm_14 hBxm_14 hFxm_14
  clear hy
  obtain ⟨A_h1, c_h1, rfl, -, -⟩ := ho_h1.sl.form
  have fr_h : Fr w14 w15 (F_h1) := hf_h.mk1 (by first | exact Nat.le_refl _ | (simp; done)) (Nat.le_refl _)
  clear hf_h
  go_wp2_with fail
  refine (eq_ListInsIns ((blkFind m)) ((blkFind m)) _ _  _ ((OwnSl.up ho_h1 (fr_h.mk1 (Nat.le_refl _) (by omega)) (Ext.refl _)).old (fr_h.mk1 (Nat.le_refl _) (by omega))) ((OwnSl.up ho_w1 (fr_w.mk1 (Nat.le_refl _) (by omega)) (Ext.trans (Ext.trans hx13 hx14) hx15)).old (fr_w.mk1 (Nat.le_refl _) (by omega)))).mono ?_
  rintro e w16 ⟨rfl, hy⟩
  have hx16 : Ext w15 w16 := Ext.trans (Ext.auto) hy
  have hs16 := hx16.size
  have he16 : Ext w w16 := he15.trans hx16
  have hBm_16 : Bx w16 (w.heap.size) [(.slice Am1 m.regs.length cm1), .int .i64 m.pc, (.slice Am2 m.mem.length cm2), .int .i64 m.save, .bool m.lets, .bool m.waits, .int .i64 m.halt, (.slice Am3 m.ins.length cm3), (.slice Am4 m.outs.length cm4), .int .i64 m.count] := hx16.bx hBm_15 (by omega)
  have hFm_16 : ∀ oo, w16.frozen? ⟨w.heap.size, oo, none⟩ = false := fun oo => (hx16.frozen (by omega)).trans (hFm_15 oo)
  have hBxm_16 : Bx w16 (w4.heap.size) [(.slice A_xm1 (m.regs).length c_xm1), .int .i64 m.pc, (.slice A_xm2 (m.mem).length c_xm2), .int .i64 m.save, .bool m.lets, .bool m.waits, .int .i64 m.halt, (.slice A_xm3 (m.ins).length c_xm3), (.slice A_xm4 (m.outs).length c_xm4), .int .i64 m.count] := hx16.bx hBxm_15 (by omega)
  have hFxm_16 : ∀ oo, w16.frozen? ⟨w4.heap.size, oo, none⟩ = false := fun oo => (hx16.frozen (by omega)).trans (hFxm_15 oo)
  clear hBm_15 hFm_15 hBxm_15 hFxm_15
  clear hy
  go_wp2_with fail
  refine (held_ListInsIns ((blkFind m)) _ (1) _ ((OwnSl.up hm_g1 (fr_g.mk1 (Nat.le_refl _) (by omega)) (Ext.trans (Ext.trans (Ext.trans hx13 hx14) hx15) hx16)).old (fr_g.mk1 (Nat.le_refl _) (by omega))) (by omega) (by omega)).mono ?_
  rintro e w17 ⟨rfl, hy⟩
  have hx17 : Ext w16 w17 := Ext.trans (Ext.auto) hy
  have hs17 := hx17.size
  have he17 : Ext w w17 := he16.trans hx17
  have hBm_17 : Bx w17 (w.heap.size) [(.slice Am1 m.regs.length cm1), .int .i64 m.pc, (.slice Am2 m.mem.length cm2), .int .i64 m.save, .bool m.lets, .bool m.waits, .int .i64 m.halt, (.slice Am3 m.ins.length cm3), (.slice Am4 m.outs.length cm4), .int .i64 m.count] := hx17.bx hBm_16 (by omega)
  have hFm_17 : ∀ oo, w17.frozen? ⟨w.heap.size, oo, none⟩ = false := fun oo => (hx17.frozen (by omega)).trans (hFm_16 oo)
  have hBxm_17 : Bx w17 (w4.heap.size) [(.slice A_xm1 (m.regs).length c_xm1), .int .i64 m.pc, (.slice A_xm2 (m.mem).length c_xm2), .int .i64 m.save, .bool m.lets, .bool m.waits, .int .i64 m.halt, (.slice A_xm3 (m.ins).length c_xm3), (.slice A_xm4 (m.outs).length c_xm4), .int .i64 m.count] := hx17.bx hBxm_16 (by omega)
  have hFxm_17 : ∀ oo, w17.frozen? ⟨w4.heap.size, oo, none⟩ = false := fun oo => (hx17.frozen (by omega)).trans (hFxm_16 oo)
  clear hBm_16 hFm_16 hBxm_16 hFxm_16
  clear hy
  go_wp2
  go_ret
  exact ⟨rfl, he17⟩

end Go.Proofs.YtokibcicoomceaaDoor
