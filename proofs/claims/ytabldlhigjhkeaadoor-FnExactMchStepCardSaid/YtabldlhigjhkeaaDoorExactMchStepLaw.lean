/-
  The law FnExactMchStep returns true for every input.
-/
import Derived.Test.YtabldlhigjhkeaaDoorMstS
import Derived.Test.YtabldlhigjhkeaaDoorMstI
import Derived.Test.YtabldlhigjhkeaaDoorMstBlk
import Derived.Test.YtabldlhigjhkeaaDoorTo
import Derived.Test.YtabldlhigjhkeaaDoorEq
import Derived.Test.YtabldlhigjhkeaaDoorSz
import Derived.Test.YtabldlhigjhkeaaDoorMark
import Derived.Test.YtabldlhigjhkeaaDoorMarkN
import Derived.Test.YtabldlhigjhkeaaDoorCt
import Derived.Test.YtabldlhigjhkeaaDoorRegLib
import Derived.Test.YtabldlhigjhkeaaDoorCertLib
namespace Go.Proofs.YtabldlhigjhkeaaDoor
open Go.RowKit

set_option linter.unusedVariables false
set_option linter.unusedSimpArgs false
set_option maxRecDepth 100000

set_option maxHeartbeats 16000000 in
theorem lawExactMchStep_any (m : MchMach) (irq : Bool) (vm1 vm2 vm3 vm4 : Value) (w : World) (hm1 : Sl w (Old w) vm1 m.regs) (hm2 : Sl w (Old w) vm2 m.mem) (hm3 : Sl w (Old w) vm3 m.ins) (hm4 : Sl w (Old w) vm4 m.outs) (hkm : m.Ok) (lf : Nat) (hF : Forms lf w) :
    Calls Tryd.prog 3 #[.agg #[vm1, .int .i64 m.pc, vm2, .int .i64 m.save, .bool m.lets, .bool m.waits, .int .i64 m.halt, vm3, vm4, .int .i64 m.count], .bool irq] w fun e w' => e = .returned (.bool true) ∧ Ext w w' := by
  obtain ⟨Am1, cm1, rfl, hlm1, hmm1⟩ := hm1.form
  obtain ⟨Am2, cm2, rfl, hlm2, hmm2⟩ := hm2.form
  obtain ⟨Am3, cm3, rfl, hlm3, hmm3⟩ := hm3.form
  obtain ⟨Am4, cm4, rfl, hlm4, hmm4⟩ := hm4.form
  have b1_ := blk_len m.regs
  have b2_ := blk_len m.mem
  have b3_ := blk_len m.ins
  have b4_ := blk_len m.outs
  have hbo_ : Bulk.blk m = Bulk.blk m.regs + Bulk.blk m.mem + Bulk.blk m.ins + Bulk.blk m.outs := rfl
  go_enter Tryd.func3, Tryd.ntmps3
  go_wp2_with fail
  have he0 : Ext w (w.alloc (Obj.cells #[(.slice Am1 m.regs.length cm1), .int .i64 m.pc, (.slice Am2 m.mem.length cm2), .int .i64 m.save, .bool m.lets, .bool m.waits, .int .i64 m.halt, (.slice Am3 m.ins.length cm3), (.slice Am4 m.outs.length cm4), .int .i64 m.count] 24)) := (Ext.auto)
  have hs0 : w.heap.size + 1 ≤ ((w.alloc (Obj.cells #[(.slice Am1 m.regs.length cm1), .int .i64 m.pc, (.slice Am2 m.mem.length cm2), .int .i64 m.save, .bool m.lets, .bool m.waits, .int .i64 m.halt, (.slice Am3 m.ins.length cm3), (.slice Am4 m.outs.length cm4), .int .i64 m.count] 24))).heap.size := by simp
  have hq0 := hide (show ((w.alloc (Obj.cells #[(.slice Am1 m.regs.length cm1), .int .i64 m.pc, (.slice Am2 m.mem.length cm2), .int .i64 m.save, .bool m.lets, .bool m.waits, .int .i64 m.halt, (.slice Am3 m.ins.length cm3), (.slice Am4 m.outs.length cm4), .int .i64 m.count] 24))).heap.size = w.heap.size + 1 by simp)
  have hBm_0 : Bx (w.alloc (Obj.cells #[(.slice Am1 m.regs.length cm1), .int .i64 m.pc, (.slice Am2 m.mem.length cm2), .int .i64 m.save, .bool m.lets, .bool m.waits, .int .i64 m.halt, (.slice Am3 m.ins.length cm3), (.slice Am4 m.outs.length cm4), .int .i64 m.count] 24)) (w.heap.size) [(.slice Am1 m.regs.length cm1), .int .i64 m.pc, (.slice Am2 m.mem.length cm2), .int .i64 m.save, .bool m.lets, .bool m.waits, .int .i64 m.halt, (.slice Am3 m.ins.length cm3), (.slice Am4 m.outs.length cm4), .int .i64 m.count] := (by have := (Bx.new w #[(.slice Am1 m.regs.length cm1), .int .i64 m.pc, (.slice Am2 m.mem.length cm2), .int .i64 m.save, .bool m.lets, .bool m.waits, .int .i64 m.halt, (.slice Am3 m.ins.length cm3), (.slice Am4 m.outs.length cm4), .int .i64 m.count] 24); simpa using this)
  have hFm_0 : ∀ oo, ((w.alloc (Obj.cells #[(.slice Am1 m.regs.length cm1), .int .i64 m.pc, (.slice Am2 m.mem.length cm2), .int .i64 m.save, .bool m.lets, .bool m.waits, .int .i64 m.halt, (.slice Am3 m.ins.length cm3), (.slice Am4 m.outs.length cm4), .int .i64 m.count] 24))).frozen? ⟨w.heap.size, oo, none⟩ = false := fun oo => by simp
  generalize (w.alloc (Obj.cells #[(.slice Am1 m.regs.length cm1), .int .i64 m.pc, (.slice Am2 m.mem.length cm2), .int .i64 m.save, .bool m.lets, .bool m.waits, .int .i64 m.halt, (.slice Am3 m.ins.length cm3), (.slice Am4 m.outs.length cm4), .int .i64 m.count] 24)) = w0 at *
  have ym : w.heap.size < w0.heap.size := by omega
  have xm0 := hBm_0 0 _ rfl
  have xm1 := hBm_0 1 _ rfl
  have xm2 := hBm_0 2 _ rfl
  have xm3 := hBm_0 3 _ rfl
  have xm4 := hBm_0 4 _ rfl
  have xm5 := hBm_0 5 _ rfl
  have xm6 := hBm_0 6 _ rfl
  have xm7 := hBm_0 7 _ rfl
  have xm8 := hBm_0 8 _ rfl
  have xm9 := hBm_0 9 _ rfl
  go_wp2_with fail
  clear xm0 xm1 xm2 xm3 xm4 xm5 xm6 xm7 xm8 xm9 ym
  refine (sz_MchMach m _ _ _ _ 1048576 _ (hm1.ext (Ext.trans he0 (Ext.auto))) (hm2.ext (Ext.trans he0 (Ext.auto))) (hm3.ext (Ext.trans he0 (Ext.auto))) (hm4.ext (Ext.trans he0 (Ext.auto))) (by omega) (by omega)).mono ?_
  rintro e w1 ⟨rzm, rfl, hr, hy⟩
  have hx1 : Ext w0 w1 := Ext.trans (Ext.auto) hy
  have hs1 := hx1.size
  have he1 : Ext w w1 := he0.trans hx1
  have hBm_1 : Bx w1 (w.heap.size) [(.slice Am1 m.regs.length cm1), .int .i64 m.pc, (.slice Am2 m.mem.length cm2), .int .i64 m.save, .bool m.lets, .bool m.waits, .int .i64 m.halt, (.slice Am3 m.ins.length cm3), (.slice Am4 m.outs.length cm4), .int .i64 m.count] := hx1.bx hBm_0 (by omega)
  have hFm_1 : ∀ oo, w1.frozen? ⟨w.heap.size, oo, none⟩ = false := fun oo => (hx1.frozen (by omega)).trans (hFm_0 oo)
  clear hBm_0 hFm_0
  clear hy
  rcases hr with ⟨hq, hl0⟩ | ⟨hq, hl0⟩
  rotate_left
  · have hz : rzm < 0 := by omega
    clear hq
    go_wp2
    go_ret
    exact ⟨rfl, he1⟩
  have hzm : 0 ≤ rzm := by omega
  have hym : rzm ≤ 1048576 := by omega
  have nm : Bulk.blk m ≤ 1048576 := by omega
  have mm : ((Bulk.blk m : Nat) : Int) ≤ 1048576 - rzm := by omega
  have HQm := hide hq
  clear hq hl0
  have ym : w.heap.size < w1.heap.size := by omega
  have xm0 := hBm_1 0 _ rfl
  have xm1 := hBm_1 1 _ rfl
  have xm2 := hBm_1 2 _ rfl
  have xm3 := hBm_1 3 _ rfl
  have xm4 := hBm_1 4 _ rfl
  have xm5 := hBm_1 5 _ rfl
  have xm6 := hBm_1 6 _ rfl
  have xm7 := hBm_1 7 _ rfl
  have xm8 := hBm_1 8 _ rfl
  have xm9 := hBm_1 9 _ rfl
  go_wp2_with fail
  clear xm0 xm1 xm2 xm3 xm4 xm5 xm6 xm7 xm8 xm9 ym
  refine (to_MchMach m _ _ _ _ _ (hm1.ext (Ext.trans he1 (Ext.auto))) (hm2.ext (Ext.trans he1 (Ext.auto))) (hm3.ext (Ext.trans he1 (Ext.auto))) (hm4.ext (Ext.trans he1 (Ext.auto))) nm).mono ?_
  rintro e w2 ⟨r_pm1, r_pm2, r_pm3, r_pm4, F_pm1, F_pm2, F_pm3, F_pm4, rfl, ho_pm1, ho_pm2, ho_pm3, ho_pm4, hf_pm, hy⟩
  have hx2 : Ext w1 w2 := Ext.trans (Ext.auto) hy
  have hs2 := hx2.size
  have he2 : Ext w w2 := he1.trans hx2
  have hBm_2 : Bx w2 (w.heap.size) [(.slice Am1 m.regs.length cm1), .int .i64 m.pc, (.slice Am2 m.mem.length cm2), .int .i64 m.save, .bool m.lets, .bool m.waits, .int .i64 m.halt, (.slice Am3 m.ins.length cm3), (.slice Am4 m.outs.length cm4), .int .i64 m.count] := hx2.bx hBm_1 (by omega)
  have hFm_2 : ∀ oo, w2.frozen? ⟨w.heap.size, oo, none⟩ = false := fun oo => (hx2.frozen (by omega)).trans (hFm_1 oo)
  clear hBm_1 hFm_1
  clear hy
  obtain ⟨A_pm1, c_pm1, rfl, -, -⟩ := ho_pm1.sl.form
  obtain ⟨A_pm2, c_pm2, rfl, -, -⟩ := ho_pm2.sl.form
  obtain ⟨A_pm3, c_pm3, rfl, -, -⟩ := ho_pm3.sl.form
  obtain ⟨A_pm4, c_pm4, rfl, -, -⟩ := ho_pm4.sl.form
  have fr_pm : Fr w1 w2 (F_pm1 ++ F_pm2 ++ F_pm3 ++ F_pm4) := hf_pm.mk1 (by first | exact Nat.le_refl _ | (simp; done)) (Nat.le_refl _)
  clear hf_pm
  go_wp2_with fail
  refine (specMchStep_any m irq _ _ _ _ _ ((OwnSl.up ho_pm1 (fr_pm.inl.inl.inl.mk1 (Nat.le_refl _) (by omega)) (Ext.refl _)).old (fr_pm.inl.inl.inl.mk1 (Nat.le_refl _) (by omega))) ((OwnSl.up ho_pm2 (fr_pm.inl.inl.inr.mk1 (Nat.le_refl _) (by omega)) (Ext.refl _)).old (fr_pm.inl.inl.inr.mk1 (Nat.le_refl _) (by omega))) ((OwnSl.up ho_pm3 (fr_pm.inl.inr.mk1 (Nat.le_refl _) (by omega)) (Ext.refl _)).old (fr_pm.inl.inr.mk1 (Nat.le_refl _) (by omega))) ((OwnSl.up ho_pm4 (fr_pm.inr.mk1 (Nat.le_refl _) (by omega)) (Ext.refl _)).old (fr_pm.inr.mk1 (Nat.le_refl _) (by omega))) (by omega) (by omega) (by omega) (by omega)).mono ?_
  rintro e w3 ⟨r_w1, r_w2, r_w3, r_w4, F_w1, F_w2, F_w3, F_w4, rfl, ho_w1, ho_w2, ho_w3, ho_w4, hf_w, hy⟩
  have hx3 : Ext w2 w3 := Ext.trans (Ext.auto) hy
  have hs3 := hx3.size
  have he3 : Ext w w3 := he2.trans hx3
  have hBm_3 : Bx w3 (w.heap.size) [(.slice Am1 m.regs.length cm1), .int .i64 m.pc, (.slice Am2 m.mem.length cm2), .int .i64 m.save, .bool m.lets, .bool m.waits, .int .i64 m.halt, (.slice Am3 m.ins.length cm3), (.slice Am4 m.outs.length cm4), .int .i64 m.count] := hx3.bx hBm_2 (by omega)
  have hFm_3 : ∀ oo, w3.frozen? ⟨w.heap.size, oo, none⟩ = false := fun oo => (hx3.frozen (by omega)).trans (hFm_2 oo)
  clear hBm_2 hFm_2
  clear hy
  obtain ⟨A_w1, c_w1, rfl, -, -⟩ := ho_w1.sl.form
  obtain ⟨A_w2, c_w2, rfl, -, -⟩ := ho_w2.sl.form
  obtain ⟨A_w3, c_w3, rfl, -, -⟩ := ho_w3.sl.form
  obtain ⟨A_w4, c_w4, rfl, -, -⟩ := ho_w4.sl.form
  have fr_w : Fr w2 w3 (F_w1 ++ F_w2 ++ F_w3 ++ F_w4) := hf_w.mk1 (by first | exact Nat.le_refl _ | (simp; done)) (Nat.le_refl _)
  clear hf_w
  have ym : w.heap.size < w3.heap.size := by omega
  have xm0 := hBm_3 0 _ rfl
  have xm1 := hBm_3 1 _ rfl
  have xm2 := hBm_3 2 _ rfl
  have xm3 := hBm_3 3 _ rfl
  have xm4 := hBm_3 4 _ rfl
  have xm5 := hBm_3 5 _ rfl
  have xm6 := hBm_3 6 _ rfl
  have xm7 := hBm_3 7 _ rfl
  have xm8 := hBm_3 8 _ rfl
  have xm9 := hBm_3 9 _ rfl
  go_wp2_with fail
  clear xm0 xm1 xm2 xm3 xm4 xm5 xm6 xm7 xm8 xm9 ym
  have hx4 : Ext w3 (w3.alloc (Obj.cells #[(.slice A_w1 ((mStep m irq).regs).length c_w1), .int .i64 ((mStep m irq).pc), (.slice A_w2 ((mStep m irq).mem).length c_w2), .int .i64 ((mStep m irq).save), .bool (mStep m irq).lets, .bool (mStep m irq).waits, .int .i64 ((mStep m irq).halt), (.slice A_w3 ((mStep m irq).ins).length c_w3), (.slice A_w4 ((mStep m irq).outs).length c_w4), .int .i64 ((mStep m irq).count)] 26)) := (Ext.auto)
  have hs4 : w3.heap.size + 1 ≤ ((w3.alloc (Obj.cells #[(.slice A_w1 ((mStep m irq).regs).length c_w1), .int .i64 ((mStep m irq).pc), (.slice A_w2 ((mStep m irq).mem).length c_w2), .int .i64 ((mStep m irq).save), .bool (mStep m irq).lets, .bool (mStep m irq).waits, .int .i64 ((mStep m irq).halt), (.slice A_w3 ((mStep m irq).ins).length c_w3), (.slice A_w4 ((mStep m irq).outs).length c_w4), .int .i64 ((mStep m irq).count)] 26))).heap.size := by simp
  have he4 : Ext w (w3.alloc (Obj.cells #[(.slice A_w1 ((mStep m irq).regs).length c_w1), .int .i64 ((mStep m irq).pc), (.slice A_w2 ((mStep m irq).mem).length c_w2), .int .i64 ((mStep m irq).save), .bool (mStep m irq).lets, .bool (mStep m irq).waits, .int .i64 ((mStep m irq).halt), (.slice A_w3 ((mStep m irq).ins).length c_w3), (.slice A_w4 ((mStep m irq).outs).length c_w4), .int .i64 ((mStep m irq).count)] 26)) := he3.trans hx4
  have hBm_4 : Bx (w3.alloc (Obj.cells #[(.slice A_w1 ((mStep m irq).regs).length c_w1), .int .i64 ((mStep m irq).pc), (.slice A_w2 ((mStep m irq).mem).length c_w2), .int .i64 ((mStep m irq).save), .bool (mStep m irq).lets, .bool (mStep m irq).waits, .int .i64 ((mStep m irq).halt), (.slice A_w3 ((mStep m irq).ins).length c_w3), (.slice A_w4 ((mStep m irq).outs).length c_w4), .int .i64 ((mStep m irq).count)] 26)) (w.heap.size) [(.slice Am1 m.regs.length cm1), .int .i64 m.pc, (.slice Am2 m.mem.length cm2), .int .i64 m.save, .bool m.lets, .bool m.waits, .int .i64 m.halt, (.slice Am3 m.ins.length cm3), (.slice Am4 m.outs.length cm4), .int .i64 m.count] := hx4.bx hBm_3 (by omega)
  have hFm_4 : ∀ oo, ((w3.alloc (Obj.cells #[(.slice A_w1 ((mStep m irq).regs).length c_w1), .int .i64 ((mStep m irq).pc), (.slice A_w2 ((mStep m irq).mem).length c_w2), .int .i64 ((mStep m irq).save), .bool (mStep m irq).lets, .bool (mStep m irq).waits, .int .i64 ((mStep m irq).halt), (.slice A_w3 ((mStep m irq).ins).length c_w3), (.slice A_w4 ((mStep m irq).outs).length c_w4), .int .i64 ((mStep m irq).count)] 26))).frozen? ⟨w.heap.size, oo, none⟩ = false := fun oo => (hx4.frozen (by omega)).trans (hFm_3 oo)
  have hBw_4 : Bx (w3.alloc (Obj.cells #[(.slice A_w1 ((mStep m irq).regs).length c_w1), .int .i64 ((mStep m irq).pc), (.slice A_w2 ((mStep m irq).mem).length c_w2), .int .i64 ((mStep m irq).save), .bool (mStep m irq).lets, .bool (mStep m irq).waits, .int .i64 ((mStep m irq).halt), (.slice A_w3 ((mStep m irq).ins).length c_w3), (.slice A_w4 ((mStep m irq).outs).length c_w4), .int .i64 ((mStep m irq).count)] 26)) (w3.heap.size) [(.slice A_w1 ((mStep m irq).regs).length c_w1), .int .i64 ((mStep m irq).pc), (.slice A_w2 ((mStep m irq).mem).length c_w2), .int .i64 ((mStep m irq).save), .bool (mStep m irq).lets, .bool (mStep m irq).waits, .int .i64 ((mStep m irq).halt), (.slice A_w3 ((mStep m irq).ins).length c_w3), (.slice A_w4 ((mStep m irq).outs).length c_w4), .int .i64 ((mStep m irq).count)] := by have := (by have := (Bx.new w3 #[(.slice A_w1 ((mStep m irq).regs).length c_w1), .int .i64 ((mStep m irq).pc), (.slice A_w2 ((mStep m irq).mem).length c_w2), .int .i64 ((mStep m irq).save), .bool (mStep m irq).lets, .bool (mStep m irq).waits, .int .i64 ((mStep m irq).halt), (.slice A_w3 ((mStep m irq).ins).length c_w3), (.slice A_w4 ((mStep m irq).outs).length c_w4), .int .i64 ((mStep m irq).count)] 26); simpa using this); exact this
  have hFw_4 : ∀ oo, ((w3.alloc (Obj.cells #[(.slice A_w1 ((mStep m irq).regs).length c_w1), .int .i64 ((mStep m irq).pc), (.slice A_w2 ((mStep m irq).mem).length c_w2), .int .i64 ((mStep m irq).save), .bool (mStep m irq).lets, .bool (mStep m irq).waits, .int .i64 ((mStep m irq).halt), (.slice A_w3 ((mStep m irq).ins).length c_w3), (.slice A_w4 ((mStep m irq).outs).length c_w4), .int .i64 ((mStep m irq).count)] 26))).frozen? ⟨w3.heap.size, oo, none⟩ = false := fun oo => by simp
  generalize (w3.alloc (Obj.cells #[(.slice A_w1 ((mStep m irq).regs).length c_w1), .int .i64 ((mStep m irq).pc), (.slice A_w2 ((mStep m irq).mem).length c_w2), .int .i64 ((mStep m irq).save), .bool (mStep m irq).lets, .bool (mStep m irq).waits, .int .i64 ((mStep m irq).halt), (.slice A_w3 ((mStep m irq).ins).length c_w3), (.slice A_w4 ((mStep m irq).outs).length c_w4), .int .i64 ((mStep m irq).count)] 26)) = w4 at *
  clear hBm_3 hFm_3
  refine (to_MchMach m _ _ _ _ _ (hm1.ext (Ext.trans he4 (Ext.auto))) (hm2.ext (Ext.trans he4 (Ext.auto))) (hm3.ext (Ext.trans he4 (Ext.auto))) (hm4.ext (Ext.trans he4 (Ext.auto))) nm).mono ?_
  rintro e w5 ⟨r_xm1, r_xm2, r_xm3, r_xm4, F_xm1, F_xm2, F_xm3, F_xm4, rfl, ho_xm1, ho_xm2, ho_xm3, ho_xm4, hf_xm, hy⟩
  have hx5 : Ext w4 w5 := Ext.trans (Ext.auto) hy
  have hs5 := hx5.size
  have he5 : Ext w w5 := he4.trans hx5
  have hBm_5 : Bx w5 (w.heap.size) [(.slice Am1 m.regs.length cm1), .int .i64 m.pc, (.slice Am2 m.mem.length cm2), .int .i64 m.save, .bool m.lets, .bool m.waits, .int .i64 m.halt, (.slice Am3 m.ins.length cm3), (.slice Am4 m.outs.length cm4), .int .i64 m.count] := hx5.bx hBm_4 (by omega)
  have hFm_5 : ∀ oo, w5.frozen? ⟨w.heap.size, oo, none⟩ = false := fun oo => (hx5.frozen (by omega)).trans (hFm_4 oo)
  have hBw_5 : Bx w5 (w3.heap.size) [(.slice A_w1 ((mStep m irq).regs).length c_w1), .int .i64 ((mStep m irq).pc), (.slice A_w2 ((mStep m irq).mem).length c_w2), .int .i64 ((mStep m irq).save), .bool (mStep m irq).lets, .bool (mStep m irq).waits, .int .i64 ((mStep m irq).halt), (.slice A_w3 ((mStep m irq).ins).length c_w3), (.slice A_w4 ((mStep m irq).outs).length c_w4), .int .i64 ((mStep m irq).count)] := hx5.bx hBw_4 (by omega)
  have hFw_5 : ∀ oo, w5.frozen? ⟨w3.heap.size, oo, none⟩ = false := fun oo => (hx5.frozen (by omega)).trans (hFw_4 oo)
  clear hBm_4 hFm_4 hBw_4 hFw_4
  clear hy
  obtain ⟨A_xm1, c_xm1, rfl, -, -⟩ := ho_xm1.sl.form
  obtain ⟨A_xm2, c_xm2, rfl, -, -⟩ := ho_xm2.sl.form
  obtain ⟨A_xm3, c_xm3, rfl, -, -⟩ := ho_xm3.sl.form
  obtain ⟨A_xm4, c_xm4, rfl, -, -⟩ := ho_xm4.sl.form
  have fr_xm : Fr w4 w5 (F_xm1 ++ F_xm2 ++ F_xm3 ++ F_xm4) := hf_xm.mk1 (by first | exact Nat.le_refl _ | (simp; done)) (Nat.le_refl _)
  clear hf_xm
  go_wp2_with fail
  have hx6 : Ext w5 (w5.alloc (Obj.cells #[(.slice A_xm1 (m.regs).length c_xm1), .int .i64 m.pc, (.slice A_xm2 (m.mem).length c_xm2), .int .i64 m.save, .bool m.lets, .bool m.waits, .int .i64 m.halt, (.slice A_xm3 (m.ins).length c_xm3), (.slice A_xm4 (m.outs).length c_xm4), .int .i64 m.count] 26)) := (Ext.auto)
  have hs6 : w5.heap.size + 1 ≤ ((w5.alloc (Obj.cells #[(.slice A_xm1 (m.regs).length c_xm1), .int .i64 m.pc, (.slice A_xm2 (m.mem).length c_xm2), .int .i64 m.save, .bool m.lets, .bool m.waits, .int .i64 m.halt, (.slice A_xm3 (m.ins).length c_xm3), (.slice A_xm4 (m.outs).length c_xm4), .int .i64 m.count] 26))).heap.size := by simp
  have he6 : Ext w (w5.alloc (Obj.cells #[(.slice A_xm1 (m.regs).length c_xm1), .int .i64 m.pc, (.slice A_xm2 (m.mem).length c_xm2), .int .i64 m.save, .bool m.lets, .bool m.waits, .int .i64 m.halt, (.slice A_xm3 (m.ins).length c_xm3), (.slice A_xm4 (m.outs).length c_xm4), .int .i64 m.count] 26)) := he5.trans hx6
  have hBm_6 : Bx (w5.alloc (Obj.cells #[(.slice A_xm1 (m.regs).length c_xm1), .int .i64 m.pc, (.slice A_xm2 (m.mem).length c_xm2), .int .i64 m.save, .bool m.lets, .bool m.waits, .int .i64 m.halt, (.slice A_xm3 (m.ins).length c_xm3), (.slice A_xm4 (m.outs).length c_xm4), .int .i64 m.count] 26)) (w.heap.size) [(.slice Am1 m.regs.length cm1), .int .i64 m.pc, (.slice Am2 m.mem.length cm2), .int .i64 m.save, .bool m.lets, .bool m.waits, .int .i64 m.halt, (.slice Am3 m.ins.length cm3), (.slice Am4 m.outs.length cm4), .int .i64 m.count] := hx6.bx hBm_5 (by omega)
  have hFm_6 : ∀ oo, ((w5.alloc (Obj.cells #[(.slice A_xm1 (m.regs).length c_xm1), .int .i64 m.pc, (.slice A_xm2 (m.mem).length c_xm2), .int .i64 m.save, .bool m.lets, .bool m.waits, .int .i64 m.halt, (.slice A_xm3 (m.ins).length c_xm3), (.slice A_xm4 (m.outs).length c_xm4), .int .i64 m.count] 26))).frozen? ⟨w.heap.size, oo, none⟩ = false := fun oo => (hx6.frozen (by omega)).trans (hFm_5 oo)
  have hBw_6 : Bx (w5.alloc (Obj.cells #[(.slice A_xm1 (m.regs).length c_xm1), .int .i64 m.pc, (.slice A_xm2 (m.mem).length c_xm2), .int .i64 m.save, .bool m.lets, .bool m.waits, .int .i64 m.halt, (.slice A_xm3 (m.ins).length c_xm3), (.slice A_xm4 (m.outs).length c_xm4), .int .i64 m.count] 26)) (w3.heap.size) [(.slice A_w1 ((mStep m irq).regs).length c_w1), .int .i64 ((mStep m irq).pc), (.slice A_w2 ((mStep m irq).mem).length c_w2), .int .i64 ((mStep m irq).save), .bool (mStep m irq).lets, .bool (mStep m irq).waits, .int .i64 ((mStep m irq).halt), (.slice A_w3 ((mStep m irq).ins).length c_w3), (.slice A_w4 ((mStep m irq).outs).length c_w4), .int .i64 ((mStep m irq).count)] := hx6.bx hBw_5 (by omega)
  have hFw_6 : ∀ oo, ((w5.alloc (Obj.cells #[(.slice A_xm1 (m.regs).length c_xm1), .int .i64 m.pc, (.slice A_xm2 (m.mem).length c_xm2), .int .i64 m.save, .bool m.lets, .bool m.waits, .int .i64 m.halt, (.slice A_xm3 (m.ins).length c_xm3), (.slice A_xm4 (m.outs).length c_xm4), .int .i64 m.count] 26))).frozen? ⟨w3.heap.size, oo, none⟩ = false := fun oo => (hx6.frozen (by omega)).trans (hFw_5 oo)
  have hBxm_6 : Bx (w5.alloc (Obj.cells #[(.slice A_xm1 (m.regs).length c_xm1), .int .i64 m.pc, (.slice A_xm2 (m.mem).length c_xm2), .int .i64 m.save, .bool m.lets, .bool m.waits, .int .i64 m.halt, (.slice A_xm3 (m.ins).length c_xm3), (.slice A_xm4 (m.outs).length c_xm4), .int .i64 m.count] 26)) (w5.heap.size) [(.slice A_xm1 (m.regs).length c_xm1), .int .i64 m.pc, (.slice A_xm2 (m.mem).length c_xm2), .int .i64 m.save, .bool m.lets, .bool m.waits, .int .i64 m.halt, (.slice A_xm3 (m.ins).length c_xm3), (.slice A_xm4 (m.outs).length c_xm4), .int .i64 m.count] := by have := (by have := (Bx.new w5 #[(.slice A_xm1 (m.regs).length c_xm1), .int .i64 m.pc, (.slice A_xm2 (m.mem).length c_xm2), .int .i64 m.save, .bool m.lets, .bool m.waits, .int .i64 m.halt, (.slice A_xm3 (m.ins).length c_xm3), (.slice A_xm4 (m.outs).length c_xm4), .int .i64 m.count] 26); simpa using this); exact this
  have hFxm_6 : ∀ oo, ((w5.alloc (Obj.cells #[(.slice A_xm1 (m.regs).length c_xm1), .int .i64 m.pc, (.slice A_xm2 (m.mem).length c_xm2), .int .i64 m.save, .bool m.lets, .bool m.waits, .int .i64 m.halt, (.slice A_xm3 (m.ins).length c_xm3), (.slice A_xm4 (m.outs).length c_xm4), .int .i64 m.count] 26))).frozen? ⟨w5.heap.size, oo, none⟩ = false := fun oo => by simp
  generalize (w5.alloc (Obj.cells #[(.slice A_xm1 (m.regs).length c_xm1), .int .i64 m.pc, (.slice A_xm2 (m.mem).length c_xm2), .int .i64 m.save, .bool m.lets, .bool m.waits, .int .i64 m.halt, (.slice A_xm3 (m.ins).length c_xm3), (.slice A_xm4 (m.outs).length c_xm4), .int .i64 m.count] 26)) = w6 at *
  clear hBm_5 hFm_5 hBw_5 hFw_5
  refine (implMchStep_any m irq _ _ _ _ _ ((OwnSl.up ho_xm1 (fr_xm.inl.inl.inl.mk1 (Nat.le_refl _) (by omega)) hx6).old (fr_xm.inl.inl.inl.mk1 (Nat.le_refl _) (by omega))) ((OwnSl.up ho_xm2 (fr_xm.inl.inl.inr.mk1 (Nat.le_refl _) (by omega)) hx6).old (fr_xm.inl.inl.inr.mk1 (Nat.le_refl _) (by omega))) ((OwnSl.up ho_xm3 (fr_xm.inl.inr.mk1 (Nat.le_refl _) (by omega)) hx6).old (fr_xm.inl.inr.mk1 (Nat.le_refl _) (by omega))) ((OwnSl.up ho_xm4 (fr_xm.inr.mk1 (Nat.le_refl _) (by omega)) hx6).old (fr_xm.inr.mk1 (Nat.le_refl _) (by omega))) (by omega) (by omega) (by omega) (by omega) (by omega) lf (hF.ext (Ext.trans he6 (Ext.auto)))).mono ?_
  rintro e w7 ⟨r_g1, r_g2, r_g3, r_g4, F_g1, F_g2, F_g3, F_g4, rfl, ho_g1, ho_g2, ho_g3, ho_g4, hf_g, hy⟩
  have hx7 : Ext w6 w7 := Ext.trans (Ext.auto) hy
  have hs7 := hx7.size
  have he7 : Ext w w7 := he6.trans hx7
  have hBm_7 : Bx w7 (w.heap.size) [(.slice Am1 m.regs.length cm1), .int .i64 m.pc, (.slice Am2 m.mem.length cm2), .int .i64 m.save, .bool m.lets, .bool m.waits, .int .i64 m.halt, (.slice Am3 m.ins.length cm3), (.slice Am4 m.outs.length cm4), .int .i64 m.count] := hx7.bx hBm_6 (by omega)
  have hFm_7 : ∀ oo, w7.frozen? ⟨w.heap.size, oo, none⟩ = false := fun oo => (hx7.frozen (by omega)).trans (hFm_6 oo)
  have hBw_7 : Bx w7 (w3.heap.size) [(.slice A_w1 ((mStep m irq).regs).length c_w1), .int .i64 ((mStep m irq).pc), (.slice A_w2 ((mStep m irq).mem).length c_w2), .int .i64 ((mStep m irq).save), .bool (mStep m irq).lets, .bool (mStep m irq).waits, .int .i64 ((mStep m irq).halt), (.slice A_w3 ((mStep m irq).ins).length c_w3), (.slice A_w4 ((mStep m irq).outs).length c_w4), .int .i64 ((mStep m irq).count)] := hx7.bx hBw_6 (by omega)
  have hFw_7 : ∀ oo, w7.frozen? ⟨w3.heap.size, oo, none⟩ = false := fun oo => (hx7.frozen (by omega)).trans (hFw_6 oo)
  have hBxm_7 : Bx w7 (w5.heap.size) [(.slice A_xm1 (m.regs).length c_xm1), .int .i64 m.pc, (.slice A_xm2 (m.mem).length c_xm2), .int .i64 m.save, .bool m.lets, .bool m.waits, .int .i64 m.halt, (.slice A_xm3 (m.ins).length c_xm3), (.slice A_xm4 (m.outs).length c_xm4), .int .i64 m.count] := hx7.bx hBxm_6 (by omega)
  have hFxm_7 : ∀ oo, w7.frozen? ⟨w5.heap.size, oo, none⟩ = false := fun oo => (hx7.frozen (by omega)).trans (hFxm_6 oo)
  clear hBm_6 hFm_6 hBw_6 hFw_6 hBxm_6 hFxm_6
  clear hy
  obtain ⟨A_g1, c_g1, rfl, -, -⟩ := ho_g1.sl.form
  obtain ⟨A_g2, c_g2, rfl, -, -⟩ := ho_g2.sl.form
  obtain ⟨A_g3, c_g3, rfl, -, -⟩ := ho_g3.sl.form
  obtain ⟨A_g4, c_g4, rfl, -, -⟩ := ho_g4.sl.form
  have fr_g : Fr w6 w7 (F_g1 ++ F_g2 ++ F_g3 ++ F_g4) := hf_g.mk1 (by first | exact Nat.le_refl _ | (simp; done)) (Nat.le_refl _)
  clear hf_g
  have yw : w3.heap.size < w7.heap.size := by omega
  have xw0 := hBw_7 0 _ rfl
  have xw1 := hBw_7 1 _ rfl
  have xw2 := hBw_7 2 _ rfl
  have xw3 := hBw_7 3 _ rfl
  have xw4 := hBw_7 4 _ rfl
  have xw5 := hBw_7 5 _ rfl
  have xw6 := hBw_7 6 _ rfl
  have xw7 := hBw_7 7 _ rfl
  have xw8 := hBw_7 8 _ rfl
  have xw9 := hBw_7 9 _ rfl
  go_wp2_with fail
  clear xw0 xw1 xw2 xw3 xw4 xw5 xw6 xw7 xw8 xw9 yw
  have hx8 : Ext w7 (w7.alloc (Obj.cells #[(.slice A_g1 ((mStep m irq).regs).length c_g1), .int .i64 ((mStep m irq).pc), (.slice A_g2 ((mStep m irq).mem).length c_g2), .int .i64 ((mStep m irq).save), .bool (mStep m irq).lets, .bool (mStep m irq).waits, .int .i64 ((mStep m irq).halt), (.slice A_g3 ((mStep m irq).ins).length c_g3), (.slice A_g4 ((mStep m irq).outs).length c_g4), .int .i64 ((mStep m irq).count)] 26)) := (Ext.auto)
  have hs8 : w7.heap.size + 1 ≤ ((w7.alloc (Obj.cells #[(.slice A_g1 ((mStep m irq).regs).length c_g1), .int .i64 ((mStep m irq).pc), (.slice A_g2 ((mStep m irq).mem).length c_g2), .int .i64 ((mStep m irq).save), .bool (mStep m irq).lets, .bool (mStep m irq).waits, .int .i64 ((mStep m irq).halt), (.slice A_g3 ((mStep m irq).ins).length c_g3), (.slice A_g4 ((mStep m irq).outs).length c_g4), .int .i64 ((mStep m irq).count)] 26))).heap.size := by simp
  have he8 : Ext w (w7.alloc (Obj.cells #[(.slice A_g1 ((mStep m irq).regs).length c_g1), .int .i64 ((mStep m irq).pc), (.slice A_g2 ((mStep m irq).mem).length c_g2), .int .i64 ((mStep m irq).save), .bool (mStep m irq).lets, .bool (mStep m irq).waits, .int .i64 ((mStep m irq).halt), (.slice A_g3 ((mStep m irq).ins).length c_g3), (.slice A_g4 ((mStep m irq).outs).length c_g4), .int .i64 ((mStep m irq).count)] 26)) := he7.trans hx8
  have hBm_8 : Bx (w7.alloc (Obj.cells #[(.slice A_g1 ((mStep m irq).regs).length c_g1), .int .i64 ((mStep m irq).pc), (.slice A_g2 ((mStep m irq).mem).length c_g2), .int .i64 ((mStep m irq).save), .bool (mStep m irq).lets, .bool (mStep m irq).waits, .int .i64 ((mStep m irq).halt), (.slice A_g3 ((mStep m irq).ins).length c_g3), (.slice A_g4 ((mStep m irq).outs).length c_g4), .int .i64 ((mStep m irq).count)] 26)) (w.heap.size) [(.slice Am1 m.regs.length cm1), .int .i64 m.pc, (.slice Am2 m.mem.length cm2), .int .i64 m.save, .bool m.lets, .bool m.waits, .int .i64 m.halt, (.slice Am3 m.ins.length cm3), (.slice Am4 m.outs.length cm4), .int .i64 m.count] := hx8.bx hBm_7 (by omega)
  have hFm_8 : ∀ oo, ((w7.alloc (Obj.cells #[(.slice A_g1 ((mStep m irq).regs).length c_g1), .int .i64 ((mStep m irq).pc), (.slice A_g2 ((mStep m irq).mem).length c_g2), .int .i64 ((mStep m irq).save), .bool (mStep m irq).lets, .bool (mStep m irq).waits, .int .i64 ((mStep m irq).halt), (.slice A_g3 ((mStep m irq).ins).length c_g3), (.slice A_g4 ((mStep m irq).outs).length c_g4), .int .i64 ((mStep m irq).count)] 26))).frozen? ⟨w.heap.size, oo, none⟩ = false := fun oo => (hx8.frozen (by omega)).trans (hFm_7 oo)
  have hBw_8 : Bx (w7.alloc (Obj.cells #[(.slice A_g1 ((mStep m irq).regs).length c_g1), .int .i64 ((mStep m irq).pc), (.slice A_g2 ((mStep m irq).mem).length c_g2), .int .i64 ((mStep m irq).save), .bool (mStep m irq).lets, .bool (mStep m irq).waits, .int .i64 ((mStep m irq).halt), (.slice A_g3 ((mStep m irq).ins).length c_g3), (.slice A_g4 ((mStep m irq).outs).length c_g4), .int .i64 ((mStep m irq).count)] 26)) (w3.heap.size) [(.slice A_w1 ((mStep m irq).regs).length c_w1), .int .i64 ((mStep m irq).pc), (.slice A_w2 ((mStep m irq).mem).length c_w2), .int .i64 ((mStep m irq).save), .bool (mStep m irq).lets, .bool (mStep m irq).waits, .int .i64 ((mStep m irq).halt), (.slice A_w3 ((mStep m irq).ins).length c_w3), (.slice A_w4 ((mStep m irq).outs).length c_w4), .int .i64 ((mStep m irq).count)] := hx8.bx hBw_7 (by omega)
  have hFw_8 : ∀ oo, ((w7.alloc (Obj.cells #[(.slice A_g1 ((mStep m irq).regs).length c_g1), .int .i64 ((mStep m irq).pc), (.slice A_g2 ((mStep m irq).mem).length c_g2), .int .i64 ((mStep m irq).save), .bool (mStep m irq).lets, .bool (mStep m irq).waits, .int .i64 ((mStep m irq).halt), (.slice A_g3 ((mStep m irq).ins).length c_g3), (.slice A_g4 ((mStep m irq).outs).length c_g4), .int .i64 ((mStep m irq).count)] 26))).frozen? ⟨w3.heap.size, oo, none⟩ = false := fun oo => (hx8.frozen (by omega)).trans (hFw_7 oo)
  have hBxm_8 : Bx (w7.alloc (Obj.cells #[(.slice A_g1 ((mStep m irq).regs).length c_g1), .int .i64 ((mStep m irq).pc), (.slice A_g2 ((mStep m irq).mem).length c_g2), .int .i64 ((mStep m irq).save), .bool (mStep m irq).lets, .bool (mStep m irq).waits, .int .i64 ((mStep m irq).halt), (.slice A_g3 ((mStep m irq).ins).length c_g3), (.slice A_g4 ((mStep m irq).outs).length c_g4), .int .i64 ((mStep m irq).count)] 26)) (w5.heap.size) [(.slice A_xm1 (m.regs).length c_xm1), .int .i64 m.pc, (.slice A_xm2 (m.mem).length c_xm2), .int .i64 m.save, .bool m.lets, .bool m.waits, .int .i64 m.halt, (.slice A_xm3 (m.ins).length c_xm3), (.slice A_xm4 (m.outs).length c_xm4), .int .i64 m.count] := hx8.bx hBxm_7 (by omega)
  have hFxm_8 : ∀ oo, ((w7.alloc (Obj.cells #[(.slice A_g1 ((mStep m irq).regs).length c_g1), .int .i64 ((mStep m irq).pc), (.slice A_g2 ((mStep m irq).mem).length c_g2), .int .i64 ((mStep m irq).save), .bool (mStep m irq).lets, .bool (mStep m irq).waits, .int .i64 ((mStep m irq).halt), (.slice A_g3 ((mStep m irq).ins).length c_g3), (.slice A_g4 ((mStep m irq).outs).length c_g4), .int .i64 ((mStep m irq).count)] 26))).frozen? ⟨w5.heap.size, oo, none⟩ = false := fun oo => (hx8.frozen (by omega)).trans (hFxm_7 oo)
  have hBg_8 : Bx (w7.alloc (Obj.cells #[(.slice A_g1 ((mStep m irq).regs).length c_g1), .int .i64 ((mStep m irq).pc), (.slice A_g2 ((mStep m irq).mem).length c_g2), .int .i64 ((mStep m irq).save), .bool (mStep m irq).lets, .bool (mStep m irq).waits, .int .i64 ((mStep m irq).halt), (.slice A_g3 ((mStep m irq).ins).length c_g3), (.slice A_g4 ((mStep m irq).outs).length c_g4), .int .i64 ((mStep m irq).count)] 26)) (w7.heap.size) [(.slice A_g1 ((mStep m irq).regs).length c_g1), .int .i64 ((mStep m irq).pc), (.slice A_g2 ((mStep m irq).mem).length c_g2), .int .i64 ((mStep m irq).save), .bool (mStep m irq).lets, .bool (mStep m irq).waits, .int .i64 ((mStep m irq).halt), (.slice A_g3 ((mStep m irq).ins).length c_g3), (.slice A_g4 ((mStep m irq).outs).length c_g4), .int .i64 ((mStep m irq).count)] := by have := (by have := (Bx.new w7 #[(.slice A_g1 ((mStep m irq).regs).length c_g1), .int .i64 ((mStep m irq).pc), (.slice A_g2 ((mStep m irq).mem).length c_g2), .int .i64 ((mStep m irq).save), .bool (mStep m irq).lets, .bool (mStep m irq).waits, .int .i64 ((mStep m irq).halt), (.slice A_g3 ((mStep m irq).ins).length c_g3), (.slice A_g4 ((mStep m irq).outs).length c_g4), .int .i64 ((mStep m irq).count)] 26); simpa using this); exact this
  have hFg_8 : ∀ oo, ((w7.alloc (Obj.cells #[(.slice A_g1 ((mStep m irq).regs).length c_g1), .int .i64 ((mStep m irq).pc), (.slice A_g2 ((mStep m irq).mem).length c_g2), .int .i64 ((mStep m irq).save), .bool (mStep m irq).lets, .bool (mStep m irq).waits, .int .i64 ((mStep m irq).halt), (.slice A_g3 ((mStep m irq).ins).length c_g3), (.slice A_g4 ((mStep m irq).outs).length c_g4), .int .i64 ((mStep m irq).count)] 26))).frozen? ⟨w7.heap.size, oo, none⟩ = false := fun oo => by simp
  generalize (w7.alloc (Obj.cells #[(.slice A_g1 ((mStep m irq).regs).length c_g1), .int .i64 ((mStep m irq).pc), (.slice A_g2 ((mStep m irq).mem).length c_g2), .int .i64 ((mStep m irq).save), .bool (mStep m irq).lets, .bool (mStep m irq).waits, .int .i64 ((mStep m irq).halt), (.slice A_g3 ((mStep m irq).ins).length c_g3), (.slice A_g4 ((mStep m irq).outs).length c_g4), .int .i64 ((mStep m irq).count)] 26)) = w8 at *
  clear hBm_7 hFm_7 hBw_7 hFw_7 hBxm_7 hFxm_7
  refine (eq_MchMach ((mStep m irq)) ((mStep m irq)) _ _ _ _ _ _ _ _  _ ((OwnSl.up ho_g1 (fr_g.inl.inl.inl.mk1 (Nat.le_refl _) (by omega)) hx8).old (fr_g.inl.inl.inl.mk1 (Nat.le_refl _) (by omega))) ((OwnSl.up ho_g2 (fr_g.inl.inl.inr.mk1 (Nat.le_refl _) (by omega)) hx8).old (fr_g.inl.inl.inr.mk1 (Nat.le_refl _) (by omega))) ((OwnSl.up ho_g3 (fr_g.inl.inr.mk1 (Nat.le_refl _) (by omega)) hx8).old (fr_g.inl.inr.mk1 (Nat.le_refl _) (by omega))) ((OwnSl.up ho_g4 (fr_g.inr.mk1 (Nat.le_refl _) (by omega)) hx8).old (fr_g.inr.mk1 (Nat.le_refl _) (by omega))) ((OwnSl.up ho_w1 (fr_w.inl.inl.inl.mk1 (Nat.le_refl _) (by omega)) (Ext.trans (Ext.trans (Ext.trans (Ext.trans hx4 hx5) hx6) hx7) hx8)).old (fr_w.inl.inl.inl.mk1 (Nat.le_refl _) (by omega))) ((OwnSl.up ho_w2 (fr_w.inl.inl.inr.mk1 (Nat.le_refl _) (by omega)) (Ext.trans (Ext.trans (Ext.trans (Ext.trans hx4 hx5) hx6) hx7) hx8)).old (fr_w.inl.inl.inr.mk1 (Nat.le_refl _) (by omega))) ((OwnSl.up ho_w3 (fr_w.inl.inr.mk1 (Nat.le_refl _) (by omega)) (Ext.trans (Ext.trans (Ext.trans (Ext.trans hx4 hx5) hx6) hx7) hx8)).old (fr_w.inl.inr.mk1 (Nat.le_refl _) (by omega))) ((OwnSl.up ho_w4 (fr_w.inr.mk1 (Nat.le_refl _) (by omega)) (Ext.trans (Ext.trans (Ext.trans (Ext.trans hx4 hx5) hx6) hx7) hx8)).old (fr_w.inr.mk1 (Nat.le_refl _) (by omega)))).mono ?_
  rintro e w9 ⟨rfl, hy⟩
  have hx9 : Ext w8 w9 := Ext.trans (Ext.auto) hy
  have hs9 := hx9.size
  have he9 : Ext w w9 := he8.trans hx9
  have hBm_9 : Bx w9 (w.heap.size) [(.slice Am1 m.regs.length cm1), .int .i64 m.pc, (.slice Am2 m.mem.length cm2), .int .i64 m.save, .bool m.lets, .bool m.waits, .int .i64 m.halt, (.slice Am3 m.ins.length cm3), (.slice Am4 m.outs.length cm4), .int .i64 m.count] := hx9.bx hBm_8 (by omega)
  have hFm_9 : ∀ oo, w9.frozen? ⟨w.heap.size, oo, none⟩ = false := fun oo => (hx9.frozen (by omega)).trans (hFm_8 oo)
  have hBw_9 : Bx w9 (w3.heap.size) [(.slice A_w1 ((mStep m irq).regs).length c_w1), .int .i64 ((mStep m irq).pc), (.slice A_w2 ((mStep m irq).mem).length c_w2), .int .i64 ((mStep m irq).save), .bool (mStep m irq).lets, .bool (mStep m irq).waits, .int .i64 ((mStep m irq).halt), (.slice A_w3 ((mStep m irq).ins).length c_w3), (.slice A_w4 ((mStep m irq).outs).length c_w4), .int .i64 ((mStep m irq).count)] := hx9.bx hBw_8 (by omega)
  have hFw_9 : ∀ oo, w9.frozen? ⟨w3.heap.size, oo, none⟩ = false := fun oo => (hx9.frozen (by omega)).trans (hFw_8 oo)
  have hBxm_9 : Bx w9 (w5.heap.size) [(.slice A_xm1 (m.regs).length c_xm1), .int .i64 m.pc, (.slice A_xm2 (m.mem).length c_xm2), .int .i64 m.save, .bool m.lets, .bool m.waits, .int .i64 m.halt, (.slice A_xm3 (m.ins).length c_xm3), (.slice A_xm4 (m.outs).length c_xm4), .int .i64 m.count] := hx9.bx hBxm_8 (by omega)
  have hFxm_9 : ∀ oo, w9.frozen? ⟨w5.heap.size, oo, none⟩ = false := fun oo => (hx9.frozen (by omega)).trans (hFxm_8 oo)
  have hBg_9 : Bx w9 (w7.heap.size) [(.slice A_g1 ((mStep m irq).regs).length c_g1), .int .i64 ((mStep m irq).pc), (.slice A_g2 ((mStep m irq).mem).length c_g2), .int .i64 ((mStep m irq).save), .bool (mStep m irq).lets, .bool (mStep m irq).waits, .int .i64 ((mStep m irq).halt), (.slice A_g3 ((mStep m irq).ins).length c_g3), (.slice A_g4 ((mStep m irq).outs).length c_g4), .int .i64 ((mStep m irq).count)] := hx9.bx hBg_8 (by omega)
  have hFg_9 : ∀ oo, w9.frozen? ⟨w7.heap.size, oo, none⟩ = false := fun oo => (hx9.frozen (by omega)).trans (hFg_8 oo)
  clear hBm_8 hFm_8 hBw_8 hFw_8 hBxm_8 hFxm_8 hBg_8 hFg_8
  clear hy
  go_wp2_with fail
  have yxm : w5.heap.size < w9.heap.size := by omega
  have xxm0 := hBxm_9 0 _ rfl
  have xxm1 := hBxm_9 1 _ rfl
  have xxm2 := hBxm_9 2 _ rfl
  have xxm3 := hBxm_9 3 _ rfl
  have xxm4 := hBxm_9 4 _ rfl
  have xxm5 := hBxm_9 5 _ rfl
  have xxm6 := hBxm_9 6 _ rfl
  have xxm7 := hBxm_9 7 _ rfl
  have xxm8 := hBxm_9 8 _ rfl
  have xxm9 := hBxm_9 9 _ rfl
  have ym : w.heap.size < w9.heap.size := by omega
  have xm0 := hBm_9 0 _ rfl
  have xm1 := hBm_9 1 _ rfl
  have xm2 := hBm_9 2 _ rfl
  have xm3 := hBm_9 3 _ rfl
  have xm4 := hBm_9 4 _ rfl
  have xm5 := hBm_9 5 _ rfl
  have xm6 := hBm_9 6 _ rfl
  have xm7 := hBm_9 7 _ rfl
  have xm8 := hBm_9 8 _ rfl
  have xm9 := hBm_9 9 _ rfl
  have hS : ∀ w', Ext w9 w' → ∀ bb oo, bb < w9.heap.size → w'.cell? ⟨bb, oo, none⟩ = w9.cell? ⟨bb, oo, none⟩ := fun w' hx bb oo hb => hx.cell hb
  refine wp_region_plan (fun w' => Ext w9 w') 3 (.float 0 (.float 1 (.chain 2 (.tail 3)))) (by kernel_rfl) (by kernel_rfl) (Ext.refl _).drew ?_
  iterate 2 ((refine Plan.float_step (v := ?_) rfl (by rfl) (fun _ _ _ h => h) (fun w' hSw => ?_) ?_; rotate_left; · (go_simp; try with_reducible rfl)); (try simp only [Act.put, List.setIfInBounds_toArray, List.set_cons_zero, List.set_cons_succ]))
  refine Plan.chain_step rfl (fun K hK => ?_)
  go_simp
  refine (to_MchMach m _ _ _ _ _ (hm1.ext (Ext.trans he9 (Ext.auto))) (hm2.ext (Ext.trans he9 (Ext.auto))) (hm3.ext (Ext.trans he9 (Ext.auto))) (hm4.ext (Ext.trans he9 (Ext.auto))) nm).mono ?_
  rintro e w10 ⟨r_ym1, r_ym2, r_ym3, r_ym4, F_ym1, F_ym2, F_ym3, F_ym4, rfl, ho_ym1, ho_ym2, ho_ym3, ho_ym4, hf_ym, hy⟩
  refine hK.out _ _ (Ext.trans (Ext.auto) hy) ?_
  clear hK
  (try simp only [Act.put, List.setIfInBounds_toArray, List.set_cons_zero, List.set_cons_succ])
  have hx10 : Ext w9 w10 := Ext.trans (Ext.auto) hy
  have hs10 := hx10.size
  have he10 : Ext w w10 := he9.trans hx10
  have hBm_10 : Bx w10 (w.heap.size) [(.slice Am1 m.regs.length cm1), .int .i64 m.pc, (.slice Am2 m.mem.length cm2), .int .i64 m.save, .bool m.lets, .bool m.waits, .int .i64 m.halt, (.slice Am3 m.ins.length cm3), (.slice Am4 m.outs.length cm4), .int .i64 m.count] := hx10.bx hBm_9 (by omega)
  have hFm_10 : ∀ oo, w10.frozen? ⟨w.heap.size, oo, none⟩ = false := fun oo => (hx10.frozen (by omega)).trans (hFm_9 oo)
  have hBw_10 : Bx w10 (w3.heap.size) [(.slice A_w1 ((mStep m irq).regs).length c_w1), .int .i64 ((mStep m irq).pc), (.slice A_w2 ((mStep m irq).mem).length c_w2), .int .i64 ((mStep m irq).save), .bool (mStep m irq).lets, .bool (mStep m irq).waits, .int .i64 ((mStep m irq).halt), (.slice A_w3 ((mStep m irq).ins).length c_w3), (.slice A_w4 ((mStep m irq).outs).length c_w4), .int .i64 ((mStep m irq).count)] := hx10.bx hBw_9 (by omega)
  have hFw_10 : ∀ oo, w10.frozen? ⟨w3.heap.size, oo, none⟩ = false := fun oo => (hx10.frozen (by omega)).trans (hFw_9 oo)
  have hBxm_10 : Bx w10 (w5.heap.size) [(.slice A_xm1 (m.regs).length c_xm1), .int .i64 m.pc, (.slice A_xm2 (m.mem).length c_xm2), .int .i64 m.save, .bool m.lets, .bool m.waits, .int .i64 m.halt, (.slice A_xm3 (m.ins).length c_xm3), (.slice A_xm4 (m.outs).length c_xm4), .int .i64 m.count] := hx10.bx hBxm_9 (by omega)
  have hFxm_10 : ∀ oo, w10.frozen? ⟨w5.heap.size, oo, none⟩ = false := fun oo => (hx10.frozen (by omega)).trans (hFxm_9 oo)
  have hBg_10 : Bx w10 (w7.heap.size) [(.slice A_g1 ((mStep m irq).regs).length c_g1), .int .i64 ((mStep m irq).pc), (.slice A_g2 ((mStep m irq).mem).length c_g2), .int .i64 ((mStep m irq).save), .bool (mStep m irq).lets, .bool (mStep m irq).waits, .int .i64 ((mStep m irq).halt), (.slice A_g3 ((mStep m irq).ins).length c_g3), (.slice A_g4 ((mStep m irq).outs).length c_g4), .int .i64 ((mStep m irq).count)] := hx10.bx hBg_9 (by omega)
  have hFg_10 : ∀ oo, w10.frozen? ⟨w7.heap.size, oo, none⟩ = false := fun oo => (hx10.frozen (by omega)).trans (hFg_9 oo)
  clear hBm_9 hFm_9 hBw_9 hFw_9 hBxm_9 hFxm_9 hBg_9 hFg_9
  clear hy
  obtain ⟨A_ym1, c_ym1, rfl, -, -⟩ := ho_ym1.sl.form
  obtain ⟨A_ym2, c_ym2, rfl, -, -⟩ := ho_ym2.sl.form
  obtain ⟨A_ym3, c_ym3, rfl, -, -⟩ := ho_ym3.sl.form
  obtain ⟨A_ym4, c_ym4, rfl, -, -⟩ := ho_ym4.sl.form
  have fr_ym : Fr w9 w10 (F_ym1 ++ F_ym2 ++ F_ym3 ++ F_ym4) := hf_ym.mk1 (by first | exact Nat.le_refl _ | (simp; done)) (Nat.le_refl _)
  clear hf_ym
  refine Plan.tail_step ?_
  simp only [List.drop_succ_cons, List.drop_zero]
  clear hS
  clear xxm0 xxm1 xxm2 xxm3 xxm4 xxm5 xxm6 xxm7 xxm8 xxm9 yxm
  clear xm0 xm1 xm2 xm3 xm4 xm5 xm6 xm7 xm8 xm9 ym
  go_wp2_with fail
  refine (eq_MchMach m m _ _ _ _ _ _ _ _  _ ((OwnSl.up ho_xm1 (fr_xm.inl.inl.inl.mk1 (Nat.le_refl _) (by omega)) (Ext.trans (Ext.trans (Ext.trans (Ext.trans hx6 hx7) hx8) hx9) hx10)).old (fr_xm.inl.inl.inl.mk1 (Nat.le_refl _) (by omega))) ((OwnSl.up ho_xm2 (fr_xm.inl.inl.inr.mk1 (Nat.le_refl _) (by omega)) (Ext.trans (Ext.trans (Ext.trans (Ext.trans hx6 hx7) hx8) hx9) hx10)).old (fr_xm.inl.inl.inr.mk1 (Nat.le_refl _) (by omega))) ((OwnSl.up ho_xm3 (fr_xm.inl.inr.mk1 (Nat.le_refl _) (by omega)) (Ext.trans (Ext.trans (Ext.trans (Ext.trans hx6 hx7) hx8) hx9) hx10)).old (fr_xm.inl.inr.mk1 (Nat.le_refl _) (by omega))) ((OwnSl.up ho_xm4 (fr_xm.inr.mk1 (Nat.le_refl _) (by omega)) (Ext.trans (Ext.trans (Ext.trans (Ext.trans hx6 hx7) hx8) hx9) hx10)).old (fr_xm.inr.mk1 (Nat.le_refl _) (by omega))) ((OwnSl.up ho_ym1 (fr_ym.inl.inl.inl.mk1 (Nat.le_refl _) (by omega)) (Ext.refl _)).old (fr_ym.inl.inl.inl.mk1 (Nat.le_refl _) (by omega))) ((OwnSl.up ho_ym2 (fr_ym.inl.inl.inr.mk1 (Nat.le_refl _) (by omega)) (Ext.refl _)).old (fr_ym.inl.inl.inr.mk1 (Nat.le_refl _) (by omega))) ((OwnSl.up ho_ym3 (fr_ym.inl.inr.mk1 (Nat.le_refl _) (by omega)) (Ext.refl _)).old (fr_ym.inl.inr.mk1 (Nat.le_refl _) (by omega))) ((OwnSl.up ho_ym4 (fr_ym.inr.mk1 (Nat.le_refl _) (by omega)) (Ext.refl _)).old (fr_ym.inr.mk1 (Nat.le_refl _) (by omega)))).mono ?_
  rintro e w11 ⟨rfl, hy⟩
  have hx11 : Ext w10 w11 := Ext.trans (Ext.auto) hy
  have hs11 := hx11.size
  have he11 : Ext w w11 := he10.trans hx11
  have hBm_11 : Bx w11 (w.heap.size) [(.slice Am1 m.regs.length cm1), .int .i64 m.pc, (.slice Am2 m.mem.length cm2), .int .i64 m.save, .bool m.lets, .bool m.waits, .int .i64 m.halt, (.slice Am3 m.ins.length cm3), (.slice Am4 m.outs.length cm4), .int .i64 m.count] := hx11.bx hBm_10 (by omega)
  have hFm_11 : ∀ oo, w11.frozen? ⟨w.heap.size, oo, none⟩ = false := fun oo => (hx11.frozen (by omega)).trans (hFm_10 oo)
  have hBw_11 : Bx w11 (w3.heap.size) [(.slice A_w1 ((mStep m irq).regs).length c_w1), .int .i64 ((mStep m irq).pc), (.slice A_w2 ((mStep m irq).mem).length c_w2), .int .i64 ((mStep m irq).save), .bool (mStep m irq).lets, .bool (mStep m irq).waits, .int .i64 ((mStep m irq).halt), (.slice A_w3 ((mStep m irq).ins).length c_w3), (.slice A_w4 ((mStep m irq).outs).length c_w4), .int .i64 ((mStep m irq).count)] := hx11.bx hBw_10 (by omega)
  have hFw_11 : ∀ oo, w11.frozen? ⟨w3.heap.size, oo, none⟩ = false := fun oo => (hx11.frozen (by omega)).trans (hFw_10 oo)
  have hBxm_11 : Bx w11 (w5.heap.size) [(.slice A_xm1 (m.regs).length c_xm1), .int .i64 m.pc, (.slice A_xm2 (m.mem).length c_xm2), .int .i64 m.save, .bool m.lets, .bool m.waits, .int .i64 m.halt, (.slice A_xm3 (m.ins).length c_xm3), (.slice A_xm4 (m.outs).length c_xm4), .int .i64 m.count] := hx11.bx hBxm_10 (by omega)
  have hFxm_11 : ∀ oo, w11.frozen? ⟨w5.heap.size, oo, none⟩ = false := fun oo => (hx11.frozen (by omega)).trans (hFxm_10 oo)
  have hBg_11 : Bx w11 (w7.heap.size) [(.slice A_g1 ((mStep m irq).regs).length c_g1), .int .i64 ((mStep m irq).pc), (.slice A_g2 ((mStep m irq).mem).length c_g2), .int .i64 ((mStep m irq).save), .bool (mStep m irq).lets, .bool (mStep m irq).waits, .int .i64 ((mStep m irq).halt), (.slice A_g3 ((mStep m irq).ins).length c_g3), (.slice A_g4 ((mStep m irq).outs).length c_g4), .int .i64 ((mStep m irq).count)] := hx11.bx hBg_10 (by omega)
  have hFg_11 : ∀ oo, w11.frozen? ⟨w7.heap.size, oo, none⟩ = false := fun oo => (hx11.frozen (by omega)).trans (hFg_10 oo)
  clear hBm_10 hFm_10 hBw_10 hFw_10 hBxm_10 hFxm_10 hBg_10 hFg_10
  clear hy
  clear ho_ym1 ho_ym2 ho_ym3 ho_ym4 fr_ym
  clear ho_pm1 ho_pm2 ho_pm3 ho_pm4 fr_pm
  have hct_xm := MchMach.ctV_le (m)
  have yxm : w5.heap.size < w11.heap.size := by omega
  have xxm0 := hBxm_11 0 _ rfl
  have xxm1 := hBxm_11 1 _ rfl
  have xxm2 := hBxm_11 2 _ rfl
  have xxm3 := hBxm_11 3 _ rfl
  have xxm4 := hBxm_11 4 _ rfl
  have xxm5 := hBxm_11 5 _ rfl
  have xxm6 := hBxm_11 6 _ rfl
  have xxm7 := hBxm_11 7 _ rfl
  have xxm8 := hBxm_11 8 _ rfl
  have xxm9 := hBxm_11 9 _ rfl
  go_wp2_with fail
  clear xxm0 xxm1 xxm2 xxm3 xxm4 xxm5 xxm6 xxm7 xxm8 xxm9 yxm
  refine (mark_MchMach (m) _ _ _ _ _ _ _ _ (1) _ (OwnSl.up ho_xm1 (fr_xm.inl.inl.inl.mk1 (Nat.le_refl _) (by omega)) (Ext.trans (Ext.trans (Ext.trans (Ext.trans (Ext.trans hx6 hx7) hx8) hx9) hx10) hx11)) (OwnSl.up ho_xm2 (fr_xm.inl.inl.inr.mk1 (Nat.le_refl _) (by omega)) (Ext.trans (Ext.trans (Ext.trans (Ext.trans (Ext.trans hx6 hx7) hx8) hx9) hx10) hx11)) (OwnSl.up ho_xm3 (fr_xm.inl.inr.mk1 (Nat.le_refl _) (by omega)) (Ext.trans (Ext.trans (Ext.trans (Ext.trans (Ext.trans hx6 hx7) hx8) hx9) hx10) hx11)) (OwnSl.up ho_xm4 (fr_xm.inr.mk1 (Nat.le_refl _) (by omega)) (Ext.trans (Ext.trans (Ext.trans (Ext.trans (Ext.trans hx6 hx7) hx8) hx9) hx10) hx11)) fr_xm.1 (fun x hx => by have := (fr_xm.2 x hx).2; omega) (by omega) (by omega)).mono ?_
  rintro e w12 ⟨rfl, hm_xm1, hm_xm2, hm_xm3, hm_xm4, hy⟩
  have hc12 : Chg (F_xm1 ++ F_xm2 ++ F_xm3 ++ F_xm4) w11 w12 := hy
  have hs12 := hc12.size
  have he12 : Ext w w12 := Chg.ext he11 hc12 (fun x hx => by have := (fr_xm.2 x hx).1; omega)
  have hBm_12 : Bx w12 (w.heap.size) [(.slice Am1 m.regs.length cm1), .int .i64 m.pc, (.slice Am2 m.mem.length cm2), .int .i64 m.save, .bool m.lets, .bool m.waits, .int .i64 m.halt, (.slice Am3 m.ins.length cm3), (.slice Am4 m.outs.length cm4), .int .i64 m.count] := fun j u hu => (hc12.cell (by omega) (by intro hm; have := (fr_xm.2 _ hm); have h1 := this.1; have h2 := this.2; omega)).trans (hBm_11 j u hu)
  have hFm_12 : ∀ oo, w12.frozen? ⟨w.heap.size, oo, none⟩ = false := fun oo => (hc12.frozen _ _ (by omega)).trans (hFm_11 oo)
  have hBw_12 : Bx w12 (w3.heap.size) [(.slice A_w1 ((mStep m irq).regs).length c_w1), .int .i64 ((mStep m irq).pc), (.slice A_w2 ((mStep m irq).mem).length c_w2), .int .i64 ((mStep m irq).save), .bool (mStep m irq).lets, .bool (mStep m irq).waits, .int .i64 ((mStep m irq).halt), (.slice A_w3 ((mStep m irq).ins).length c_w3), (.slice A_w4 ((mStep m irq).outs).length c_w4), .int .i64 ((mStep m irq).count)] := fun j u hu => (hc12.cell (by omega) (by intro hm; have := (fr_xm.2 _ hm); have h1 := this.1; have h2 := this.2; omega)).trans (hBw_11 j u hu)
  have hFw_12 : ∀ oo, w12.frozen? ⟨w3.heap.size, oo, none⟩ = false := fun oo => (hc12.frozen _ _ (by omega)).trans (hFw_11 oo)
  have hBxm_12 : Bx w12 (w5.heap.size) [(.slice A_xm1 (m.regs).length c_xm1), .int .i64 m.pc, (.slice A_xm2 (m.mem).length c_xm2), .int .i64 m.save, .bool m.lets, .bool m.waits, .int .i64 m.halt, (.slice A_xm3 (m.ins).length c_xm3), (.slice A_xm4 (m.outs).length c_xm4), .int .i64 m.count] := fun j u hu => (hc12.cell (by omega) (by intro hm; have := (fr_xm.2 _ hm); have h1 := this.1; have h2 := this.2; omega)).trans (hBxm_11 j u hu)
  have hFxm_12 : ∀ oo, w12.frozen? ⟨w5.heap.size, oo, none⟩ = false := fun oo => (hc12.frozen _ _ (by omega)).trans (hFxm_11 oo)
  have hBg_12 : Bx w12 (w7.heap.size) [(.slice A_g1 ((mStep m irq).regs).length c_g1), .int .i64 ((mStep m irq).pc), (.slice A_g2 ((mStep m irq).mem).length c_g2), .int .i64 ((mStep m irq).save), .bool (mStep m irq).lets, .bool (mStep m irq).waits, .int .i64 ((mStep m irq).halt), (.slice A_g3 ((mStep m irq).ins).length c_g3), (.slice A_g4 ((mStep m irq).outs).length c_g4), .int .i64 ((mStep m irq).count)] := fun j u hu => (hc12.cell (by omega) (by intro hm; have := (fr_xm.2 _ hm); have h1 := this.1; have h2 := this.2; omega)).trans (hBg_11 j u hu)
  have hFg_12 : ∀ oo, w12.frozen? ⟨w7.heap.size, oo, none⟩ = false := fun oo => (hc12.frozen _ _ (by omega)).trans (hFg_11 oo)
  clear hBm_11 hFm_11 hBw_11 hFw_11 hBxm_11 hFxm_11 hBg_11 hFg_11
  have ho_w1' := (OwnSl.up ho_w1 (fr_w.inl.inl.inl.mk1 (Nat.le_refl _) (by omega)) (Ext.trans (Ext.trans (Ext.trans (Ext.trans (Ext.trans (Ext.trans (Ext.trans hx4 hx5) hx6) hx7) hx8) hx9) hx10) hx11)).past fr_w.inl.inl.inl (by omega) hc12 (fun x hx => (fr_w.apart fr_xm (by omega)) x (by simp [hx]))
  clear ho_w1
  have ho_w1 := ho_w1'
  clear ho_w1'
  have ho_w2' := (OwnSl.up ho_w2 (fr_w.inl.inl.inr.mk1 (Nat.le_refl _) (by omega)) (Ext.trans (Ext.trans (Ext.trans (Ext.trans (Ext.trans (Ext.trans (Ext.trans hx4 hx5) hx6) hx7) hx8) hx9) hx10) hx11)).past fr_w.inl.inl.inr (by omega) hc12 (fun x hx => (fr_w.apart fr_xm (by omega)) x (by simp [hx]))
  clear ho_w2
  have ho_w2 := ho_w2'
  clear ho_w2'
  have ho_w3' := (OwnSl.up ho_w3 (fr_w.inl.inr.mk1 (Nat.le_refl _) (by omega)) (Ext.trans (Ext.trans (Ext.trans (Ext.trans (Ext.trans (Ext.trans (Ext.trans hx4 hx5) hx6) hx7) hx8) hx9) hx10) hx11)).past fr_w.inl.inr (by omega) hc12 (fun x hx => (fr_w.apart fr_xm (by omega)) x (by simp [hx]))
  clear ho_w3
  have ho_w3 := ho_w3'
  clear ho_w3'
  have ho_w4' := (OwnSl.up ho_w4 (fr_w.inr.mk1 (Nat.le_refl _) (by omega)) (Ext.trans (Ext.trans (Ext.trans (Ext.trans (Ext.trans (Ext.trans (Ext.trans hx4 hx5) hx6) hx7) hx8) hx9) hx10) hx11)).past fr_w.inr (by omega) hc12 (fun x hx => (fr_w.apart fr_xm (by omega)) x (by simp [hx]))
  clear ho_w4
  have ho_w4 := ho_w4'
  clear ho_w4'
  have ho_g1' := (OwnSl.up ho_g1 (fr_g.inl.inl.inl.mk1 (Nat.le_refl _) (by omega)) (Ext.trans (Ext.trans (Ext.trans hx8 hx9) hx10) hx11)).past fr_g.inl.inl.inl (by omega) hc12 (fun x hx => (fr_g.apart' fr_xm (by omega)) x (by simp [hx]))
  clear ho_g1
  have ho_g1 := ho_g1'
  clear ho_g1'
  have ho_g2' := (OwnSl.up ho_g2 (fr_g.inl.inl.inr.mk1 (Nat.le_refl _) (by omega)) (Ext.trans (Ext.trans (Ext.trans hx8 hx9) hx10) hx11)).past fr_g.inl.inl.inr (by omega) hc12 (fun x hx => (fr_g.apart' fr_xm (by omega)) x (by simp [hx]))
  clear ho_g2
  have ho_g2 := ho_g2'
  clear ho_g2'
  have ho_g3' := (OwnSl.up ho_g3 (fr_g.inl.inr.mk1 (Nat.le_refl _) (by omega)) (Ext.trans (Ext.trans (Ext.trans hx8 hx9) hx10) hx11)).past fr_g.inl.inr (by omega) hc12 (fun x hx => (fr_g.apart' fr_xm (by omega)) x (by simp [hx]))
  clear ho_g3
  have ho_g3 := ho_g3'
  clear ho_g3'
  have ho_g4' := (OwnSl.up ho_g4 (fr_g.inr.mk1 (Nat.le_refl _) (by omega)) (Ext.trans (Ext.trans (Ext.trans hx8 hx9) hx10) hx11)).past fr_g.inr (by omega) hc12 (fun x hx => (fr_g.apart' fr_xm (by omega)) x (by simp [hx]))
  clear ho_g4
  have ho_g4 := ho_g4'
  clear ho_g4'
  clear hy
  have yg : w7.heap.size < w12.heap.size := by omega
  have xg0 := hBg_12 0 _ rfl
  have xg1 := hBg_12 1 _ rfl
  have xg2 := hBg_12 2 _ rfl
  have xg3 := hBg_12 3 _ rfl
  have xg4 := hBg_12 4 _ rfl
  have xg5 := hBg_12 5 _ rfl
  have xg6 := hBg_12 6 _ rfl
  have xg7 := hBg_12 7 _ rfl
  have xg8 := hBg_12 8 _ rfl
  have xg9 := hBg_12 9 _ rfl
  have yw : w3.heap.size < w12.heap.size := by omega
  have xw0 := hBw_12 0 _ rfl
  have xw1 := hBw_12 1 _ rfl
  have xw2 := hBw_12 2 _ rfl
  have xw3 := hBw_12 3 _ rfl
  have xw4 := hBw_12 4 _ rfl
  have xw5 := hBw_12 5 _ rfl
  have xw6 := hBw_12 6 _ rfl
  have xw7 := hBw_12 7 _ rfl
  have xw8 := hBw_12 8 _ rfl
  have xw9 := hBw_12 9 _ rfl
  go_wp2_with fail
  clear xg0 xg1 xg2 xg3 xg4 xg5 xg6 xg7 xg8 xg9 yg
  clear xw0 xw1 xw2 xw3 xw4 xw5 xw6 xw7 xw8 xw9 yw
  refine (eq_MchMach ((mStep m irq)) ((mStep m irq)) _ _ _ _ _ _ _ _  _ ((OwnSl.up ho_g1 (fr_g.inl.inl.inl.mk1 (Nat.le_refl _) (by omega)) (Ext.refl _)).old (fr_g.inl.inl.inl.mk1 (Nat.le_refl _) (by omega))) ((OwnSl.up ho_g2 (fr_g.inl.inl.inr.mk1 (Nat.le_refl _) (by omega)) (Ext.refl _)).old (fr_g.inl.inl.inr.mk1 (Nat.le_refl _) (by omega))) ((OwnSl.up ho_g3 (fr_g.inl.inr.mk1 (Nat.le_refl _) (by omega)) (Ext.refl _)).old (fr_g.inl.inr.mk1 (Nat.le_refl _) (by omega))) ((OwnSl.up ho_g4 (fr_g.inr.mk1 (Nat.le_refl _) (by omega)) (Ext.refl _)).old (fr_g.inr.mk1 (Nat.le_refl _) (by omega))) ((OwnSl.up ho_w1 (fr_w.inl.inl.inl.mk1 (Nat.le_refl _) (by omega)) (Ext.refl _)).old (fr_w.inl.inl.inl.mk1 (Nat.le_refl _) (by omega))) ((OwnSl.up ho_w2 (fr_w.inl.inl.inr.mk1 (Nat.le_refl _) (by omega)) (Ext.refl _)).old (fr_w.inl.inl.inr.mk1 (Nat.le_refl _) (by omega))) ((OwnSl.up ho_w3 (fr_w.inl.inr.mk1 (Nat.le_refl _) (by omega)) (Ext.refl _)).old (fr_w.inl.inr.mk1 (Nat.le_refl _) (by omega))) ((OwnSl.up ho_w4 (fr_w.inr.mk1 (Nat.le_refl _) (by omega)) (Ext.refl _)).old (fr_w.inr.mk1 (Nat.le_refl _) (by omega)))).mono ?_
  rintro e w13 ⟨rfl, hy⟩
  have hx13 : Ext w12 w13 := Ext.trans (Ext.auto) hy
  have hs13 := hx13.size
  have he13 : Ext w w13 := he12.trans hx13
  have hBm_13 : Bx w13 (w.heap.size) [(.slice Am1 m.regs.length cm1), .int .i64 m.pc, (.slice Am2 m.mem.length cm2), .int .i64 m.save, .bool m.lets, .bool m.waits, .int .i64 m.halt, (.slice Am3 m.ins.length cm3), (.slice Am4 m.outs.length cm4), .int .i64 m.count] := hx13.bx hBm_12 (by omega)
  have hFm_13 : ∀ oo, w13.frozen? ⟨w.heap.size, oo, none⟩ = false := fun oo => (hx13.frozen (by omega)).trans (hFm_12 oo)
  have hBw_13 : Bx w13 (w3.heap.size) [(.slice A_w1 ((mStep m irq).regs).length c_w1), .int .i64 ((mStep m irq).pc), (.slice A_w2 ((mStep m irq).mem).length c_w2), .int .i64 ((mStep m irq).save), .bool (mStep m irq).lets, .bool (mStep m irq).waits, .int .i64 ((mStep m irq).halt), (.slice A_w3 ((mStep m irq).ins).length c_w3), (.slice A_w4 ((mStep m irq).outs).length c_w4), .int .i64 ((mStep m irq).count)] := hx13.bx hBw_12 (by omega)
  have hFw_13 : ∀ oo, w13.frozen? ⟨w3.heap.size, oo, none⟩ = false := fun oo => (hx13.frozen (by omega)).trans (hFw_12 oo)
  have hBxm_13 : Bx w13 (w5.heap.size) [(.slice A_xm1 (m.regs).length c_xm1), .int .i64 m.pc, (.slice A_xm2 (m.mem).length c_xm2), .int .i64 m.save, .bool m.lets, .bool m.waits, .int .i64 m.halt, (.slice A_xm3 (m.ins).length c_xm3), (.slice A_xm4 (m.outs).length c_xm4), .int .i64 m.count] := hx13.bx hBxm_12 (by omega)
  have hFxm_13 : ∀ oo, w13.frozen? ⟨w5.heap.size, oo, none⟩ = false := fun oo => (hx13.frozen (by omega)).trans (hFxm_12 oo)
  have hBg_13 : Bx w13 (w7.heap.size) [(.slice A_g1 ((mStep m irq).regs).length c_g1), .int .i64 ((mStep m irq).pc), (.slice A_g2 ((mStep m irq).mem).length c_g2), .int .i64 ((mStep m irq).save), .bool (mStep m irq).lets, .bool (mStep m irq).waits, .int .i64 ((mStep m irq).halt), (.slice A_g3 ((mStep m irq).ins).length c_g3), (.slice A_g4 ((mStep m irq).outs).length c_g4), .int .i64 ((mStep m irq).count)] := hx13.bx hBg_12 (by omega)
  have hFg_13 : ∀ oo, w13.frozen? ⟨w7.heap.size, oo, none⟩ = false := fun oo => (hx13.frozen (by omega)).trans (hFg_12 oo)
  clear hBm_12 hFm_12 hBw_12 hFw_12 hBxm_12 hFxm_12 hBg_12 hFg_12
  clear hy
  clear hm_xm1 hm_xm2 hm_xm3 hm_xm4 fr_xm
  have hct_g := MchMach.ctV_le ((mStep m irq))
  have hrb := blk_mStep m irq
  have yg : w7.heap.size < w13.heap.size := by omega
  have xg0 := hBg_13 0 _ rfl
  have xg1 := hBg_13 1 _ rfl
  have xg2 := hBg_13 2 _ rfl
  have xg3 := hBg_13 3 _ rfl
  have xg4 := hBg_13 4 _ rfl
  have xg5 := hBg_13 5 _ rfl
  have xg6 := hBg_13 6 _ rfl
  have xg7 := hBg_13 7 _ rfl
  have xg8 := hBg_13 8 _ rfl
  have xg9 := hBg_13 9 _ rfl
  go_wp2_with fail
  clear xg0 xg1 xg2 xg3 xg4 xg5 xg6 xg7 xg8 xg9 yg
  refine (mark_MchMach ((mStep m irq)) _ _ _ _ _ _ _ _ (1) _ (OwnSl.up ho_g1 (fr_g.inl.inl.inl.mk1 (Nat.le_refl _) (by omega)) hx13) (OwnSl.up ho_g2 (fr_g.inl.inl.inr.mk1 (Nat.le_refl _) (by omega)) hx13) (OwnSl.up ho_g3 (fr_g.inl.inr.mk1 (Nat.le_refl _) (by omega)) hx13) (OwnSl.up ho_g4 (fr_g.inr.mk1 (Nat.le_refl _) (by omega)) hx13) fr_g.1 (fun x hx => by have := (fr_g.2 x hx).2; omega) (by omega) (by omega)).mono ?_
  rintro e w14 ⟨rfl, hm_g1, hm_g2, hm_g3, hm_g4, hy⟩
  have hc14 : Chg (F_g1 ++ F_g2 ++ F_g3 ++ F_g4) w13 w14 := hy
  have hs14 := hc14.size
  have he14 : Ext w w14 := Chg.ext he13 hc14 (fun x hx => by have := (fr_g.2 x hx).1; omega)
  have hBm_14 : Bx w14 (w.heap.size) [(.slice Am1 m.regs.length cm1), .int .i64 m.pc, (.slice Am2 m.mem.length cm2), .int .i64 m.save, .bool m.lets, .bool m.waits, .int .i64 m.halt, (.slice Am3 m.ins.length cm3), (.slice Am4 m.outs.length cm4), .int .i64 m.count] := fun j u hu => (hc14.cell (by omega) (by intro hm; have := (fr_g.2 _ hm); have h1 := this.1; have h2 := this.2; omega)).trans (hBm_13 j u hu)
  have hFm_14 : ∀ oo, w14.frozen? ⟨w.heap.size, oo, none⟩ = false := fun oo => (hc14.frozen _ _ (by omega)).trans (hFm_13 oo)
  have hBw_14 : Bx w14 (w3.heap.size) [(.slice A_w1 ((mStep m irq).regs).length c_w1), .int .i64 ((mStep m irq).pc), (.slice A_w2 ((mStep m irq).mem).length c_w2), .int .i64 ((mStep m irq).save), .bool (mStep m irq).lets, .bool (mStep m irq).waits, .int .i64 ((mStep m irq).halt), (.slice A_w3 ((mStep m irq).ins).length c_w3), (.slice A_w4 ((mStep m irq).outs).length c_w4), .int .i64 ((mStep m irq).count)] := fun j u hu => (hc14.cell (by omega) (by intro hm; have := (fr_g.2 _ hm); have h1 := this.1; have h2 := this.2; omega)).trans (hBw_13 j u hu)
  have hFw_14 : ∀ oo, w14.frozen? ⟨w3.heap.size, oo, none⟩ = false := fun oo => (hc14.frozen _ _ (by omega)).trans (hFw_13 oo)
  have hBxm_14 : Bx w14 (w5.heap.size) [(.slice A_xm1 (m.regs).length c_xm1), .int .i64 m.pc, (.slice A_xm2 (m.mem).length c_xm2), .int .i64 m.save, .bool m.lets, .bool m.waits, .int .i64 m.halt, (.slice A_xm3 (m.ins).length c_xm3), (.slice A_xm4 (m.outs).length c_xm4), .int .i64 m.count] := fun j u hu => (hc14.cell (by omega) (by intro hm; have := (fr_g.2 _ hm); have h1 := this.1; have h2 := this.2; omega)).trans (hBxm_13 j u hu)
  have hFxm_14 : ∀ oo, w14.frozen? ⟨w5.heap.size, oo, none⟩ = false := fun oo => (hc14.frozen _ _ (by omega)).trans (hFxm_13 oo)
  have hBg_14 : Bx w14 (w7.heap.size) [(.slice A_g1 ((mStep m irq).regs).length c_g1), .int .i64 ((mStep m irq).pc), (.slice A_g2 ((mStep m irq).mem).length c_g2), .int .i64 ((mStep m irq).save), .bool (mStep m irq).lets, .bool (mStep m irq).waits, .int .i64 ((mStep m irq).halt), (.slice A_g3 ((mStep m irq).ins).length c_g3), (.slice A_g4 ((mStep m irq).outs).length c_g4), .int .i64 ((mStep m irq).count)] := fun j u hu => (hc14.cell (by omega) (by intro hm; have := (fr_g.2 _ hm); have h1 := this.1; have h2 := this.2; omega)).trans (hBg_13 j u hu)
  have hFg_14 : ∀ oo, w14.frozen? ⟨w7.heap.size, oo, none⟩ = false := fun oo => (hc14.frozen _ _ (by omega)).trans (hFg_13 oo)
  clear hBm_13 hFm_13 hBw_13 hFw_13 hBxm_13 hFxm_13 hBg_13 hFg_13
  have ho_w1' := (OwnSl.up ho_w1 (fr_w.inl.inl.inl.mk1 (Nat.le_refl _) (by omega)) hx13).past fr_w.inl.inl.inl (by omega) hc14 (fun x hx => (fr_w.apart fr_g (by omega)) x (by simp [hx]))
  clear ho_w1
  have ho_w1 := ho_w1'
  clear ho_w1'
  have ho_w2' := (OwnSl.up ho_w2 (fr_w.inl.inl.inr.mk1 (Nat.le_refl _) (by omega)) hx13).past fr_w.inl.inl.inr (by omega) hc14 (fun x hx => (fr_w.apart fr_g (by omega)) x (by simp [hx]))
  clear ho_w2
  have ho_w2 := ho_w2'
  clear ho_w2'
  have ho_w3' := (OwnSl.up ho_w3 (fr_w.inl.inr.mk1 (Nat.le_refl _) (by omega)) hx13).past fr_w.inl.inr (by omega) hc14 (fun x hx => (fr_w.apart fr_g (by omega)) x (by simp [hx]))
  clear ho_w3
  have ho_w3 := ho_w3'
  clear ho_w3'
  have ho_w4' := (OwnSl.up ho_w4 (fr_w.inr.mk1 (Nat.le_refl _) (by omega)) hx13).past fr_w.inr (by omega) hc14 (fun x hx => (fr_w.apart fr_g (by omega)) x (by simp [hx]))
  clear ho_w4
  have ho_w4 := ho_w4'
  clear ho_w4'
  clear hy
  have yg : w7.heap.size < w14.heap.size := by omega
  have xg0 := hBg_14 0 _ rfl
  have xg1 := hBg_14 1 _ rfl
  have xg2 := hBg_14 2 _ rfl
  have xg3 := hBg_14 3 _ rfl
  have xg4 := hBg_14 4 _ rfl
  have xg5 := hBg_14 5 _ rfl
  have xg6 := hBg_14 6 _ rfl
  have xg7 := hBg_14 7 _ rfl
  have xg8 := hBg_14 8 _ rfl
  have xg9 := hBg_14 9 _ rfl
  go_wp2_with fail
  clear xg0 xg1 xg2 xg3 xg4 xg5 xg6 xg7 xg8 xg9 yg
  refine (held_MchMach ((mStep m irq)) _ _ _ _ (1) _ ((OwnSl.up hm_g1 (fr_g.inl.inl.inl.mk1 (Nat.le_refl _) (by omega)) (Ext.refl _)).old (fr_g.inl.inl.inl.mk1 (Nat.le_refl _) (by omega))) ((OwnSl.up hm_g2 (fr_g.inl.inl.inr.mk1 (Nat.le_refl _) (by omega)) (Ext.refl _)).old (fr_g.inl.inl.inr.mk1 (Nat.le_refl _) (by omega))) ((OwnSl.up hm_g3 (fr_g.inl.inr.mk1 (Nat.le_refl _) (by omega)) (Ext.refl _)).old (fr_g.inl.inr.mk1 (Nat.le_refl _) (by omega))) ((OwnSl.up hm_g4 (fr_g.inr.mk1 (Nat.le_refl _) (by omega)) (Ext.refl _)).old (fr_g.inr.mk1 (Nat.le_refl _) (by omega))) (by omega) (by omega)).mono ?_
  rintro e w15 ⟨rfl, hy⟩
  have hx15 : Ext w14 w15 := Ext.trans (Ext.auto) hy
  have hs15 := hx15.size
  have he15 : Ext w w15 := he14.trans hx15
  have hBm_15 : Bx w15 (w.heap.size) [(.slice Am1 m.regs.length cm1), .int .i64 m.pc, (.slice Am2 m.mem.length cm2), .int .i64 m.save, .bool m.lets, .bool m.waits, .int .i64 m.halt, (.slice Am3 m.ins.length cm3), (.slice Am4 m.outs.length cm4), .int .i64 m.count] := hx15.bx hBm_14 (by omega)
  have hFm_15 : ∀ oo, w15.frozen? ⟨w.heap.size, oo, none⟩ = false := fun oo => (hx15.frozen (by omega)).trans (hFm_14 oo)
  have hBw_15 : Bx w15 (w3.heap.size) [(.slice A_w1 ((mStep m irq).regs).length c_w1), .int .i64 ((mStep m irq).pc), (.slice A_w2 ((mStep m irq).mem).length c_w2), .int .i64 ((mStep m irq).save), .bool (mStep m irq).lets, .bool (mStep m irq).waits, .int .i64 ((mStep m irq).halt), (.slice A_w3 ((mStep m irq).ins).length c_w3), (.slice A_w4 ((mStep m irq).outs).length c_w4), .int .i64 ((mStep m irq).count)] := hx15.bx hBw_14 (by omega)
  have hFw_15 : ∀ oo, w15.frozen? ⟨w3.heap.size, oo, none⟩ = false := fun oo => (hx15.frozen (by omega)).trans (hFw_14 oo)
  have hBxm_15 : Bx w15 (w5.heap.size) [(.slice A_xm1 (m.regs).length c_xm1), .int .i64 m.pc, (.slice A_xm2 (m.mem).length c_xm2), .int .i64 m.save, .bool m.lets, .bool m.waits, .int .i64 m.halt, (.slice A_xm3 (m.ins).length c_xm3), (.slice A_xm4 (m.outs).length c_xm4), .int .i64 m.count] := hx15.bx hBxm_14 (by omega)
  have hFxm_15 : ∀ oo, w15.frozen? ⟨w5.heap.size, oo, none⟩ = false := fun oo => (hx15.frozen (by omega)).trans (hFxm_14 oo)
  have hBg_15 : Bx w15 (w7.heap.size) [(.slice A_g1 ((mStep m irq).regs).length c_g1), .int .i64 ((mStep m irq).pc), (.slice A_g2 ((mStep m irq).mem).length c_g2), .int .i64 ((mStep m irq).save), .bool (mStep m irq).lets, .bool (mStep m irq).waits, .int .i64 ((mStep m irq).halt), (.slice A_g3 ((mStep m irq).ins).length c_g3), (.slice A_g4 ((mStep m irq).outs).length c_g4), .int .i64 ((mStep m irq).count)] := hx15.bx hBg_14 (by omega)
  have hFg_15 : ∀ oo, w15.frozen? ⟨w7.heap.size, oo, none⟩ = false := fun oo => (hx15.frozen (by omega)).trans (hFg_14 oo)
  clear hBm_14 hFm_14 hBw_14 hFw_14 hBxm_14 hFxm_14 hBg_14 hFg_14
  clear hy
  have ym : w.heap.size < w15.heap.size := by omega
  have xm0 := hBm_15 0 _ rfl
  have xm1 := hBm_15 1 _ rfl
  have xm2 := hBm_15 2 _ rfl
  have xm3 := hBm_15 3 _ rfl
  have xm4 := hBm_15 4 _ rfl
  have xm5 := hBm_15 5 _ rfl
  have xm6 := hBm_15 6 _ rfl
  have xm7 := hBm_15 7 _ rfl
  have xm8 := hBm_15 8 _ rfl
  have xm9 := hBm_15 9 _ rfl
  go_wp2_with fail
  clear xm0 xm1 xm2 xm3 xm4 xm5 xm6 xm7 xm8 xm9 ym
  refine (to_MchMach m _ _ _ _ _ (hm1.ext (Ext.trans he15 (Ext.auto))) (hm2.ext (Ext.trans he15 (Ext.auto))) (hm3.ext (Ext.trans he15 (Ext.auto))) (hm4.ext (Ext.trans he15 (Ext.auto))) nm).mono ?_
  rintro e w16 ⟨r_zm1, r_zm2, r_zm3, r_zm4, F_zm1, F_zm2, F_zm3, F_zm4, rfl, ho_zm1, ho_zm2, ho_zm3, ho_zm4, hf_zm, hy⟩
  have hx16 : Ext w15 w16 := Ext.trans (Ext.auto) hy
  have hs16 := hx16.size
  have he16 : Ext w w16 := he15.trans hx16
  have hBm_16 : Bx w16 (w.heap.size) [(.slice Am1 m.regs.length cm1), .int .i64 m.pc, (.slice Am2 m.mem.length cm2), .int .i64 m.save, .bool m.lets, .bool m.waits, .int .i64 m.halt, (.slice Am3 m.ins.length cm3), (.slice Am4 m.outs.length cm4), .int .i64 m.count] := hx16.bx hBm_15 (by omega)
  have hFm_16 : ∀ oo, w16.frozen? ⟨w.heap.size, oo, none⟩ = false := fun oo => (hx16.frozen (by omega)).trans (hFm_15 oo)
  have hBw_16 : Bx w16 (w3.heap.size) [(.slice A_w1 ((mStep m irq).regs).length c_w1), .int .i64 ((mStep m irq).pc), (.slice A_w2 ((mStep m irq).mem).length c_w2), .int .i64 ((mStep m irq).save), .bool (mStep m irq).lets, .bool (mStep m irq).waits, .int .i64 ((mStep m irq).halt), (.slice A_w3 ((mStep m irq).ins).length c_w3), (.slice A_w4 ((mStep m irq).outs).length c_w4), .int .i64 ((mStep m irq).count)] := hx16.bx hBw_15 (by omega)
  have hFw_16 : ∀ oo, w16.frozen? ⟨w3.heap.size, oo, none⟩ = false := fun oo => (hx16.frozen (by omega)).trans (hFw_15 oo)
  have hBxm_16 : Bx w16 (w5.heap.size) [(.slice A_xm1 (m.regs).length c_xm1), .int .i64 m.pc, (.slice A_xm2 (m.mem).length c_xm2), .int .i64 m.save, .bool m.lets, .bool m.waits, .int .i64 m.halt, (.slice A_xm3 (m.ins).length c_xm3), (.slice A_xm4 (m.outs).length c_xm4), .int .i64 m.count] := hx16.bx hBxm_15 (by omega)
  have hFxm_16 : ∀ oo, w16.frozen? ⟨w5.heap.size, oo, none⟩ = false := fun oo => (hx16.frozen (by omega)).trans (hFxm_15 oo)
  have hBg_16 : Bx w16 (w7.heap.size) [(.slice A_g1 ((mStep m irq).regs).length c_g1), .int .i64 ((mStep m irq).pc), (.slice A_g2 ((mStep m irq).mem).length c_g2), .int .i64 ((mStep m irq).save), .bool (mStep m irq).lets, .bool (mStep m irq).waits, .int .i64 ((mStep m irq).halt), (.slice A_g3 ((mStep m irq).ins).length c_g3), (.slice A_g4 ((mStep m irq).outs).length c_g4), .int .i64 ((mStep m irq).count)] := hx16.bx hBg_15 (by omega)
  have hFg_16 : ∀ oo, w16.frozen? ⟨w7.heap.size, oo, none⟩ = false := fun oo => (hx16.frozen (by omega)).trans (hFg_15 oo)
  clear hBm_15 hFm_15 hBw_15 hFw_15 hBxm_15 hFxm_15 hBg_15 hFg_15
  clear hy
  obtain ⟨A_zm1, c_zm1, rfl, -, -⟩ := ho_zm1.sl.form
  obtain ⟨A_zm2, c_zm2, rfl, -, -⟩ := ho_zm2.sl.form
  obtain ⟨A_zm3, c_zm3, rfl, -, -⟩ := ho_zm3.sl.form
  obtain ⟨A_zm4, c_zm4, rfl, -, -⟩ := ho_zm4.sl.form
  have fr_zm : Fr w15 w16 (F_zm1 ++ F_zm2 ++ F_zm3 ++ F_zm4) := hf_zm.mk1 (by first | exact Nat.le_refl _ | (simp; done)) (Nat.le_refl _)
  clear hf_zm
  go_wp2_with fail
  refine (implMchStep_any m irq _ _ _ _ _ ((OwnSl.up ho_zm1 (fr_zm.inl.inl.inl.mk1 (Nat.le_refl _) (by omega)) (Ext.refl _)).old (fr_zm.inl.inl.inl.mk1 (Nat.le_refl _) (by omega))) ((OwnSl.up ho_zm2 (fr_zm.inl.inl.inr.mk1 (Nat.le_refl _) (by omega)) (Ext.refl _)).old (fr_zm.inl.inl.inr.mk1 (Nat.le_refl _) (by omega))) ((OwnSl.up ho_zm3 (fr_zm.inl.inr.mk1 (Nat.le_refl _) (by omega)) (Ext.refl _)).old (fr_zm.inl.inr.mk1 (Nat.le_refl _) (by omega))) ((OwnSl.up ho_zm4 (fr_zm.inr.mk1 (Nat.le_refl _) (by omega)) (Ext.refl _)).old (fr_zm.inr.mk1 (Nat.le_refl _) (by omega))) (by omega) (by omega) (by omega) (by omega) (by omega) lf (hF.ext (Ext.trans he16 (Ext.auto)))).mono ?_
  rintro e w17 ⟨r_h1, r_h2, r_h3, r_h4, F_h1, F_h2, F_h3, F_h4, rfl, ho_h1, ho_h2, ho_h3, ho_h4, hf_h, hy⟩
  have hx17 : Ext w16 w17 := Ext.trans (Ext.auto) hy
  have hs17 := hx17.size
  have he17 : Ext w w17 := he16.trans hx17
  have hBm_17 : Bx w17 (w.heap.size) [(.slice Am1 m.regs.length cm1), .int .i64 m.pc, (.slice Am2 m.mem.length cm2), .int .i64 m.save, .bool m.lets, .bool m.waits, .int .i64 m.halt, (.slice Am3 m.ins.length cm3), (.slice Am4 m.outs.length cm4), .int .i64 m.count] := hx17.bx hBm_16 (by omega)
  have hFm_17 : ∀ oo, w17.frozen? ⟨w.heap.size, oo, none⟩ = false := fun oo => (hx17.frozen (by omega)).trans (hFm_16 oo)
  have hBw_17 : Bx w17 (w3.heap.size) [(.slice A_w1 ((mStep m irq).regs).length c_w1), .int .i64 ((mStep m irq).pc), (.slice A_w2 ((mStep m irq).mem).length c_w2), .int .i64 ((mStep m irq).save), .bool (mStep m irq).lets, .bool (mStep m irq).waits, .int .i64 ((mStep m irq).halt), (.slice A_w3 ((mStep m irq).ins).length c_w3), (.slice A_w4 ((mStep m irq).outs).length c_w4), .int .i64 ((mStep m irq).count)] := hx17.bx hBw_16 (by omega)
  have hFw_17 : ∀ oo, w17.frozen? ⟨w3.heap.size, oo, none⟩ = false := fun oo => (hx17.frozen (by omega)).trans (hFw_16 oo)
  have hBxm_17 : Bx w17 (w5.heap.size) [(.slice A_xm1 (m.regs).length c_xm1), .int .i64 m.pc, (.slice A_xm2 (m.mem).length c_xm2), .int .i64 m.save, .bool m.lets, .bool m.waits, .int .i64 m.halt, (.slice A_xm3 (m.ins).length c_xm3), (.slice A_xm4 (m.outs).length c_xm4), .int .i64 m.count] := hx17.bx hBxm_16 (by omega)
  have hFxm_17 : ∀ oo, w17.frozen? ⟨w5.heap.size, oo, none⟩ = false := fun oo => (hx17.frozen (by omega)).trans (hFxm_16 oo)
  have hBg_17 : Bx w17 (w7.heap.size) [(.slice A_g1 ((mStep m irq).regs).length c_g1), .int .i64 ((mStep m irq).pc), (.slice A_g2 ((mStep m irq).mem).length c_g2), .int .i64 ((mStep m irq).save), .bool (mStep m irq).lets, .bool (mStep m irq).waits, .int .i64 ((mStep m irq).halt), (.slice A_g3 ((mStep m irq).ins).length c_g3), (.slice A_g4 ((mStep m irq).outs).length c_g4), .int .i64 ((mStep m irq).count)] := hx17.bx hBg_16 (by omega)
  have hFg_17 : ∀ oo, w17.frozen? ⟨w7.heap.size, oo, none⟩ = false := fun oo => (hx17.frozen (by omega)).trans (hFg_16 oo)
  clear hBm_16 hFm_16 hBw_16 hFw_16 hBxm_16 hFxm_16 hBg_16 hFg_16
  clear hy
  obtain ⟨A_h1, c_h1, rfl, -, -⟩ := ho_h1.sl.form
  obtain ⟨A_h2, c_h2, rfl, -, -⟩ := ho_h2.sl.form
  obtain ⟨A_h3, c_h3, rfl, -, -⟩ := ho_h3.sl.form
  obtain ⟨A_h4, c_h4, rfl, -, -⟩ := ho_h4.sl.form
  have fr_h : Fr w16 w17 (F_h1 ++ F_h2 ++ F_h3 ++ F_h4) := hf_h.mk1 (by first | exact Nat.le_refl _ | (simp; done)) (Nat.le_refl _)
  clear hf_h
  have yw : w3.heap.size < w17.heap.size := by omega
  have xw0 := hBw_17 0 _ rfl
  have xw1 := hBw_17 1 _ rfl
  have xw2 := hBw_17 2 _ rfl
  have xw3 := hBw_17 3 _ rfl
  have xw4 := hBw_17 4 _ rfl
  have xw5 := hBw_17 5 _ rfl
  have xw6 := hBw_17 6 _ rfl
  have xw7 := hBw_17 7 _ rfl
  have xw8 := hBw_17 8 _ rfl
  have xw9 := hBw_17 9 _ rfl
  go_wp2_with fail
  clear xw0 xw1 xw2 xw3 xw4 xw5 xw6 xw7 xw8 xw9 yw
  have hx18 : Ext w17 (w17.alloc (Obj.cells #[(.slice A_h1 ((mStep m irq).regs).length c_h1), .int .i64 ((mStep m irq).pc), (.slice A_h2 ((mStep m irq).mem).length c_h2), .int .i64 ((mStep m irq).save), .bool (mStep m irq).lets, .bool (mStep m irq).waits, .int .i64 ((mStep m irq).halt), (.slice A_h3 ((mStep m irq).ins).length c_h3), (.slice A_h4 ((mStep m irq).outs).length c_h4), .int .i64 ((mStep m irq).count)] 26)) := (Ext.auto)
  have hs18 : w17.heap.size + 1 ≤ ((w17.alloc (Obj.cells #[(.slice A_h1 ((mStep m irq).regs).length c_h1), .int .i64 ((mStep m irq).pc), (.slice A_h2 ((mStep m irq).mem).length c_h2), .int .i64 ((mStep m irq).save), .bool (mStep m irq).lets, .bool (mStep m irq).waits, .int .i64 ((mStep m irq).halt), (.slice A_h3 ((mStep m irq).ins).length c_h3), (.slice A_h4 ((mStep m irq).outs).length c_h4), .int .i64 ((mStep m irq).count)] 26))).heap.size := by simp
  have he18 : Ext w (w17.alloc (Obj.cells #[(.slice A_h1 ((mStep m irq).regs).length c_h1), .int .i64 ((mStep m irq).pc), (.slice A_h2 ((mStep m irq).mem).length c_h2), .int .i64 ((mStep m irq).save), .bool (mStep m irq).lets, .bool (mStep m irq).waits, .int .i64 ((mStep m irq).halt), (.slice A_h3 ((mStep m irq).ins).length c_h3), (.slice A_h4 ((mStep m irq).outs).length c_h4), .int .i64 ((mStep m irq).count)] 26)) := he17.trans hx18
  have hBm_18 : Bx (w17.alloc (Obj.cells #[(.slice A_h1 ((mStep m irq).regs).length c_h1), .int .i64 ((mStep m irq).pc), (.slice A_h2 ((mStep m irq).mem).length c_h2), .int .i64 ((mStep m irq).save), .bool (mStep m irq).lets, .bool (mStep m irq).waits, .int .i64 ((mStep m irq).halt), (.slice A_h3 ((mStep m irq).ins).length c_h3), (.slice A_h4 ((mStep m irq).outs).length c_h4), .int .i64 ((mStep m irq).count)] 26)) (w.heap.size) [(.slice Am1 m.regs.length cm1), .int .i64 m.pc, (.slice Am2 m.mem.length cm2), .int .i64 m.save, .bool m.lets, .bool m.waits, .int .i64 m.halt, (.slice Am3 m.ins.length cm3), (.slice Am4 m.outs.length cm4), .int .i64 m.count] := hx18.bx hBm_17 (by omega)
  have hFm_18 : ∀ oo, ((w17.alloc (Obj.cells #[(.slice A_h1 ((mStep m irq).regs).length c_h1), .int .i64 ((mStep m irq).pc), (.slice A_h2 ((mStep m irq).mem).length c_h2), .int .i64 ((mStep m irq).save), .bool (mStep m irq).lets, .bool (mStep m irq).waits, .int .i64 ((mStep m irq).halt), (.slice A_h3 ((mStep m irq).ins).length c_h3), (.slice A_h4 ((mStep m irq).outs).length c_h4), .int .i64 ((mStep m irq).count)] 26))).frozen? ⟨w.heap.size, oo, none⟩ = false := fun oo => (hx18.frozen (by omega)).trans (hFm_17 oo)
  have hBw_18 : Bx (w17.alloc (Obj.cells #[(.slice A_h1 ((mStep m irq).regs).length c_h1), .int .i64 ((mStep m irq).pc), (.slice A_h2 ((mStep m irq).mem).length c_h2), .int .i64 ((mStep m irq).save), .bool (mStep m irq).lets, .bool (mStep m irq).waits, .int .i64 ((mStep m irq).halt), (.slice A_h3 ((mStep m irq).ins).length c_h3), (.slice A_h4 ((mStep m irq).outs).length c_h4), .int .i64 ((mStep m irq).count)] 26)) (w3.heap.size) [(.slice A_w1 ((mStep m irq).regs).length c_w1), .int .i64 ((mStep m irq).pc), (.slice A_w2 ((mStep m irq).mem).length c_w2), .int .i64 ((mStep m irq).save), .bool (mStep m irq).lets, .bool (mStep m irq).waits, .int .i64 ((mStep m irq).halt), (.slice A_w3 ((mStep m irq).ins).length c_w3), (.slice A_w4 ((mStep m irq).outs).length c_w4), .int .i64 ((mStep m irq).count)] := hx18.bx hBw_17 (by omega)
  have hFw_18 : ∀ oo, ((w17.alloc (Obj.cells #[(.slice A_h1 ((mStep m irq).regs).length c_h1), .int .i64 ((mStep m irq).pc), (.slice A_h2 ((mStep m irq).mem).length c_h2), .int .i64 ((mStep m irq).save), .bool (mStep m irq).lets, .bool (mStep m irq).waits, .int .i64 ((mStep m irq).halt), (.slice A_h3 ((mStep m irq).ins).length c_h3), (.slice A_h4 ((mStep m irq).outs).length c_h4), .int .i64 ((mStep m irq).count)] 26))).frozen? ⟨w3.heap.size, oo, none⟩ = false := fun oo => (hx18.frozen (by omega)).trans (hFw_17 oo)
  have hBxm_18 : Bx (w17.alloc (Obj.cells #[(.slice A_h1 ((mStep m irq).regs).length c_h1), .int .i64 ((mStep m irq).pc), (.slice A_h2 ((mStep m irq).mem).length c_h2), .int .i64 ((mStep m irq).save), .bool (mStep m irq).lets, .bool (mStep m irq).waits, .int .i64 ((mStep m irq).halt), (.slice A_h3 ((mStep m irq).ins).length c_h3), (.slice A_h4 ((mStep m irq).outs).length c_h4), .int .i64 ((mStep m irq).count)] 26)) (w5.heap.size) [(.slice A_xm1 (m.regs).length c_xm1), .int .i64 m.pc, (.slice A_xm2 (m.mem).length c_xm2), .int .i64 m.save, .bool m.lets, .bool m.waits, .int .i64 m.halt, (.slice A_xm3 (m.ins).length c_xm3), (.slice A_xm4 (m.outs).length c_xm4), .int .i64 m.count] := hx18.bx hBxm_17 (by omega)
  have hFxm_18 : ∀ oo, ((w17.alloc (Obj.cells #[(.slice A_h1 ((mStep m irq).regs).length c_h1), .int .i64 ((mStep m irq).pc), (.slice A_h2 ((mStep m irq).mem).length c_h2), .int .i64 ((mStep m irq).save), .bool (mStep m irq).lets, .bool (mStep m irq).waits, .int .i64 ((mStep m irq).halt), (.slice A_h3 ((mStep m irq).ins).length c_h3), (.slice A_h4 ((mStep m irq).outs).length c_h4), .int .i64 ((mStep m irq).count)] 26))).frozen? ⟨w5.heap.size, oo, none⟩ = false := fun oo => (hx18.frozen (by omega)).trans (hFxm_17 oo)
  have hBg_18 : Bx (w17.alloc (Obj.cells #[(.slice A_h1 ((mStep m irq).regs).length c_h1), .int .i64 ((mStep m irq).pc), (.slice A_h2 ((mStep m irq).mem).length c_h2), .int .i64 ((mStep m irq).save), .bool (mStep m irq).lets, .bool (mStep m irq).waits, .int .i64 ((mStep m irq).halt), (.slice A_h3 ((mStep m irq).ins).length c_h3), (.slice A_h4 ((mStep m irq).outs).length c_h4), .int .i64 ((mStep m irq).count)] 26)) (w7.heap.size) [(.slice A_g1 ((mStep m irq).regs).length c_g1), .int .i64 ((mStep m irq).pc), (.slice A_g2 ((mStep m irq).mem).length c_g2), .int .i64 ((mStep m irq).save), .bool (mStep m irq).lets, .bool (mStep m irq).waits, .int .i64 ((mStep m irq).halt), (.slice A_g3 ((mStep m irq).ins).length c_g3), (.slice A_g4 ((mStep m irq).outs).length c_g4), .int .i64 ((mStep m irq).count)] := hx18.bx hBg_17 (by omega)
  have hFg_18 : ∀ oo, ((w17.alloc (Obj.cells #[(.slice A_h1 ((mStep m irq).regs).length c_h1), .int .i64 ((mStep m irq).pc), (.slice A_h2 ((mStep m irq).mem).length c_h2), .int .i64 ((mStep m irq).save), .bool (mStep m irq).lets, .bool (mStep m irq).waits, .int .i64 ((mStep m irq).halt), (.slice A_h3 ((mStep m irq).ins).length c_h3), (.slice A_h4 ((mStep m irq).outs).length c_h4), .int .i64 ((mStep m irq).count)] 26))).frozen? ⟨w7.heap.size, oo, none⟩ = false := fun oo => (hx18.frozen (by omega)).trans (hFg_17 oo)
  have hBh_18 : Bx (w17.alloc (Obj.cells #[(.slice A_h1 ((mStep m irq).regs).length c_h1), .int .i64 ((mStep m irq).pc), (.slice A_h2 ((mStep m irq).mem).length c_h2), .int .i64 ((mStep m irq).save), .bool (mStep m irq).lets, .bool (mStep m irq).waits, .int .i64 ((mStep m irq).halt), (.slice A_h3 ((mStep m irq).ins).length c_h3), (.slice A_h4 ((mStep m irq).outs).length c_h4), .int .i64 ((mStep m irq).count)] 26)) (w17.heap.size) [(.slice A_h1 ((mStep m irq).regs).length c_h1), .int .i64 ((mStep m irq).pc), (.slice A_h2 ((mStep m irq).mem).length c_h2), .int .i64 ((mStep m irq).save), .bool (mStep m irq).lets, .bool (mStep m irq).waits, .int .i64 ((mStep m irq).halt), (.slice A_h3 ((mStep m irq).ins).length c_h3), (.slice A_h4 ((mStep m irq).outs).length c_h4), .int .i64 ((mStep m irq).count)] := by have := (by have := (Bx.new w17 #[(.slice A_h1 ((mStep m irq).regs).length c_h1), .int .i64 ((mStep m irq).pc), (.slice A_h2 ((mStep m irq).mem).length c_h2), .int .i64 ((mStep m irq).save), .bool (mStep m irq).lets, .bool (mStep m irq).waits, .int .i64 ((mStep m irq).halt), (.slice A_h3 ((mStep m irq).ins).length c_h3), (.slice A_h4 ((mStep m irq).outs).length c_h4), .int .i64 ((mStep m irq).count)] 26); simpa using this); exact this
  have hFh_18 : ∀ oo, ((w17.alloc (Obj.cells #[(.slice A_h1 ((mStep m irq).regs).length c_h1), .int .i64 ((mStep m irq).pc), (.slice A_h2 ((mStep m irq).mem).length c_h2), .int .i64 ((mStep m irq).save), .bool (mStep m irq).lets, .bool (mStep m irq).waits, .int .i64 ((mStep m irq).halt), (.slice A_h3 ((mStep m irq).ins).length c_h3), (.slice A_h4 ((mStep m irq).outs).length c_h4), .int .i64 ((mStep m irq).count)] 26))).frozen? ⟨w17.heap.size, oo, none⟩ = false := fun oo => by simp
  generalize (w17.alloc (Obj.cells #[(.slice A_h1 ((mStep m irq).regs).length c_h1), .int .i64 ((mStep m irq).pc), (.slice A_h2 ((mStep m irq).mem).length c_h2), .int .i64 ((mStep m irq).save), .bool (mStep m irq).lets, .bool (mStep m irq).waits, .int .i64 ((mStep m irq).halt), (.slice A_h3 ((mStep m irq).ins).length c_h3), (.slice A_h4 ((mStep m irq).outs).length c_h4), .int .i64 ((mStep m irq).count)] 26)) = w18 at *
  clear hBm_17 hFm_17 hBw_17 hFw_17 hBxm_17 hFxm_17 hBg_17 hFg_17
  refine (eq_MchMach ((mStep m irq)) ((mStep m irq)) _ _ _ _ _ _ _ _  _ ((OwnSl.up ho_h1 (fr_h.inl.inl.inl.mk1 (Nat.le_refl _) (by omega)) hx18).old (fr_h.inl.inl.inl.mk1 (Nat.le_refl _) (by omega))) ((OwnSl.up ho_h2 (fr_h.inl.inl.inr.mk1 (Nat.le_refl _) (by omega)) hx18).old (fr_h.inl.inl.inr.mk1 (Nat.le_refl _) (by omega))) ((OwnSl.up ho_h3 (fr_h.inl.inr.mk1 (Nat.le_refl _) (by omega)) hx18).old (fr_h.inl.inr.mk1 (Nat.le_refl _) (by omega))) ((OwnSl.up ho_h4 (fr_h.inr.mk1 (Nat.le_refl _) (by omega)) hx18).old (fr_h.inr.mk1 (Nat.le_refl _) (by omega))) ((OwnSl.up ho_w1 (fr_w.inl.inl.inl.mk1 (Nat.le_refl _) (by omega)) (Ext.trans (Ext.trans (Ext.trans hx15 hx16) hx17) hx18)).old (fr_w.inl.inl.inl.mk1 (Nat.le_refl _) (by omega))) ((OwnSl.up ho_w2 (fr_w.inl.inl.inr.mk1 (Nat.le_refl _) (by omega)) (Ext.trans (Ext.trans (Ext.trans hx15 hx16) hx17) hx18)).old (fr_w.inl.inl.inr.mk1 (Nat.le_refl _) (by omega))) ((OwnSl.up ho_w3 (fr_w.inl.inr.mk1 (Nat.le_refl _) (by omega)) (Ext.trans (Ext.trans (Ext.trans hx15 hx16) hx17) hx18)).old (fr_w.inl.inr.mk1 (Nat.le_refl _) (by omega))) ((OwnSl.up ho_w4 (fr_w.inr.mk1 (Nat.le_refl _) (by omega)) (Ext.trans (Ext.trans (Ext.trans hx15 hx16) hx17) hx18)).old (fr_w.inr.mk1 (Nat.le_refl _) (by omega)))).mono ?_
  rintro e w19 ⟨rfl, hy⟩
  have hx19 : Ext w18 w19 := Ext.trans (Ext.auto) hy
  have hs19 := hx19.size
  have he19 : Ext w w19 := he18.trans hx19
  have hBm_19 : Bx w19 (w.heap.size) [(.slice Am1 m.regs.length cm1), .int .i64 m.pc, (.slice Am2 m.mem.length cm2), .int .i64 m.save, .bool m.lets, .bool m.waits, .int .i64 m.halt, (.slice Am3 m.ins.length cm3), (.slice Am4 m.outs.length cm4), .int .i64 m.count] := hx19.bx hBm_18 (by omega)
  have hFm_19 : ∀ oo, w19.frozen? ⟨w.heap.size, oo, none⟩ = false := fun oo => (hx19.frozen (by omega)).trans (hFm_18 oo)
  have hBw_19 : Bx w19 (w3.heap.size) [(.slice A_w1 ((mStep m irq).regs).length c_w1), .int .i64 ((mStep m irq).pc), (.slice A_w2 ((mStep m irq).mem).length c_w2), .int .i64 ((mStep m irq).save), .bool (mStep m irq).lets, .bool (mStep m irq).waits, .int .i64 ((mStep m irq).halt), (.slice A_w3 ((mStep m irq).ins).length c_w3), (.slice A_w4 ((mStep m irq).outs).length c_w4), .int .i64 ((mStep m irq).count)] := hx19.bx hBw_18 (by omega)
  have hFw_19 : ∀ oo, w19.frozen? ⟨w3.heap.size, oo, none⟩ = false := fun oo => (hx19.frozen (by omega)).trans (hFw_18 oo)
  have hBxm_19 : Bx w19 (w5.heap.size) [(.slice A_xm1 (m.regs).length c_xm1), .int .i64 m.pc, (.slice A_xm2 (m.mem).length c_xm2), .int .i64 m.save, .bool m.lets, .bool m.waits, .int .i64 m.halt, (.slice A_xm3 (m.ins).length c_xm3), (.slice A_xm4 (m.outs).length c_xm4), .int .i64 m.count] := hx19.bx hBxm_18 (by omega)
  have hFxm_19 : ∀ oo, w19.frozen? ⟨w5.heap.size, oo, none⟩ = false := fun oo => (hx19.frozen (by omega)).trans (hFxm_18 oo)
  have hBg_19 : Bx w19 (w7.heap.size) [(.slice A_g1 ((mStep m irq).regs).length c_g1), .int .i64 ((mStep m irq).pc), (.slice A_g2 ((mStep m irq).mem).length c_g2), .int .i64 ((mStep m irq).save), .bool (mStep m irq).lets, .bool (mStep m irq).waits, .int .i64 ((mStep m irq).halt), (.slice A_g3 ((mStep m irq).ins).length c_g3), (.slice A_g4 ((mStep m irq).outs).length c_g4), .int .i64 ((mStep m irq).count)] := hx19.bx hBg_18 (by omega)
  have hFg_19 : ∀ oo, w19.frozen? ⟨w7.heap.size, oo, none⟩ = false := fun oo => (hx19.frozen (by omega)).trans (hFg_18 oo)
  have hBh_19 : Bx w19 (w17.heap.size) [(.slice A_h1 ((mStep m irq).regs).length c_h1), .int .i64 ((mStep m irq).pc), (.slice A_h2 ((mStep m irq).mem).length c_h2), .int .i64 ((mStep m irq).save), .bool (mStep m irq).lets, .bool (mStep m irq).waits, .int .i64 ((mStep m irq).halt), (.slice A_h3 ((mStep m irq).ins).length c_h3), (.slice A_h4 ((mStep m irq).outs).length c_h4), .int .i64 ((mStep m irq).count)] := hx19.bx hBh_18 (by omega)
  have hFh_19 : ∀ oo, w19.frozen? ⟨w17.heap.size, oo, none⟩ = false := fun oo => (hx19.frozen (by omega)).trans (hFh_18 oo)
  clear hBm_18 hFm_18 hBw_18 hFw_18 hBxm_18 hFxm_18 hBg_18 hFg_18 hBh_18 hFh_18
  clear hy
  have yg : w7.heap.size < w19.heap.size := by omega
  have xg0 := hBg_19 0 _ rfl
  have xg1 := hBg_19 1 _ rfl
  have xg2 := hBg_19 2 _ rfl
  have xg3 := hBg_19 3 _ rfl
  have xg4 := hBg_19 4 _ rfl
  have xg5 := hBg_19 5 _ rfl
  have xg6 := hBg_19 6 _ rfl
  have xg7 := hBg_19 7 _ rfl
  have xg8 := hBg_19 8 _ rfl
  have xg9 := hBg_19 9 _ rfl
  go_wp2_with fail
  clear xg0 xg1 xg2 xg3 xg4 xg5 xg6 xg7 xg8 xg9 yg
  refine (held_MchMach ((mStep m irq)) _ _ _ _ (1) _ ((OwnSl.up hm_g1 (fr_g.inl.inl.inl.mk1 (Nat.le_refl _) (by omega)) (Ext.trans (Ext.trans (Ext.trans (Ext.trans hx15 hx16) hx17) hx18) hx19)).old (fr_g.inl.inl.inl.mk1 (Nat.le_refl _) (by omega))) ((OwnSl.up hm_g2 (fr_g.inl.inl.inr.mk1 (Nat.le_refl _) (by omega)) (Ext.trans (Ext.trans (Ext.trans (Ext.trans hx15 hx16) hx17) hx18) hx19)).old (fr_g.inl.inl.inr.mk1 (Nat.le_refl _) (by omega))) ((OwnSl.up hm_g3 (fr_g.inl.inr.mk1 (Nat.le_refl _) (by omega)) (Ext.trans (Ext.trans (Ext.trans (Ext.trans hx15 hx16) hx17) hx18) hx19)).old (fr_g.inl.inr.mk1 (Nat.le_refl _) (by omega))) ((OwnSl.up hm_g4 (fr_g.inr.mk1 (Nat.le_refl _) (by omega)) (Ext.trans (Ext.trans (Ext.trans (Ext.trans hx15 hx16) hx17) hx18) hx19)).old (fr_g.inr.mk1 (Nat.le_refl _) (by omega))) (by omega) (by omega)).mono ?_
  rintro e w20 ⟨rfl, hy⟩
  have hx20 : Ext w19 w20 := Ext.trans (Ext.auto) hy
  have hs20 := hx20.size
  have he20 : Ext w w20 := he19.trans hx20
  have hBm_20 : Bx w20 (w.heap.size) [(.slice Am1 m.regs.length cm1), .int .i64 m.pc, (.slice Am2 m.mem.length cm2), .int .i64 m.save, .bool m.lets, .bool m.waits, .int .i64 m.halt, (.slice Am3 m.ins.length cm3), (.slice Am4 m.outs.length cm4), .int .i64 m.count] := hx20.bx hBm_19 (by omega)
  have hFm_20 : ∀ oo, w20.frozen? ⟨w.heap.size, oo, none⟩ = false := fun oo => (hx20.frozen (by omega)).trans (hFm_19 oo)
  have hBw_20 : Bx w20 (w3.heap.size) [(.slice A_w1 ((mStep m irq).regs).length c_w1), .int .i64 ((mStep m irq).pc), (.slice A_w2 ((mStep m irq).mem).length c_w2), .int .i64 ((mStep m irq).save), .bool (mStep m irq).lets, .bool (mStep m irq).waits, .int .i64 ((mStep m irq).halt), (.slice A_w3 ((mStep m irq).ins).length c_w3), (.slice A_w4 ((mStep m irq).outs).length c_w4), .int .i64 ((mStep m irq).count)] := hx20.bx hBw_19 (by omega)
  have hFw_20 : ∀ oo, w20.frozen? ⟨w3.heap.size, oo, none⟩ = false := fun oo => (hx20.frozen (by omega)).trans (hFw_19 oo)
  have hBxm_20 : Bx w20 (w5.heap.size) [(.slice A_xm1 (m.regs).length c_xm1), .int .i64 m.pc, (.slice A_xm2 (m.mem).length c_xm2), .int .i64 m.save, .bool m.lets, .bool m.waits, .int .i64 m.halt, (.slice A_xm3 (m.ins).length c_xm3), (.slice A_xm4 (m.outs).length c_xm4), .int .i64 m.count] := hx20.bx hBxm_19 (by omega)
  have hFxm_20 : ∀ oo, w20.frozen? ⟨w5.heap.size, oo, none⟩ = false := fun oo => (hx20.frozen (by omega)).trans (hFxm_19 oo)
  have hBg_20 : Bx w20 (w7.heap.size) [(.slice A_g1 ((mStep m irq).regs).length c_g1), .int .i64 ((mStep m irq).pc), (.slice A_g2 ((mStep m irq).mem).length c_g2), .int .i64 ((mStep m irq).save), .bool (mStep m irq).lets, .bool (mStep m irq).waits, .int .i64 ((mStep m irq).halt), (.slice A_g3 ((mStep m irq).ins).length c_g3), (.slice A_g4 ((mStep m irq).outs).length c_g4), .int .i64 ((mStep m irq).count)] := hx20.bx hBg_19 (by omega)
  have hFg_20 : ∀ oo, w20.frozen? ⟨w7.heap.size, oo, none⟩ = false := fun oo => (hx20.frozen (by omega)).trans (hFg_19 oo)
  have hBh_20 : Bx w20 (w17.heap.size) [(.slice A_h1 ((mStep m irq).regs).length c_h1), .int .i64 ((mStep m irq).pc), (.slice A_h2 ((mStep m irq).mem).length c_h2), .int .i64 ((mStep m irq).save), .bool (mStep m irq).lets, .bool (mStep m irq).waits, .int .i64 ((mStep m irq).halt), (.slice A_h3 ((mStep m irq).ins).length c_h3), (.slice A_h4 ((mStep m irq).outs).length c_h4), .int .i64 ((mStep m irq).count)] := hx20.bx hBh_19 (by omega)
  have hFh_20 : ∀ oo, w20.frozen? ⟨w17.heap.size, oo, none⟩ = false := fun oo => (hx20.frozen (by omega)).trans (hFh_19 oo)
  clear hBm_19 hFm_19 hBw_19 hFw_19 hBxm_19 hFxm_19 hBg_19 hFg_19 hBh_19 hFh_19
  clear hy
  go_wp2
  go_ret
  exact ⟨rfl, he20⟩

end Go.Proofs.YtabldlhigjhkeaaDoor
