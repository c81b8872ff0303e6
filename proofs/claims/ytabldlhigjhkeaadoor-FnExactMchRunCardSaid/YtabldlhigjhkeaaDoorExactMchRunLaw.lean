/-
  The law FnExactMchRun returns true for every input.
-/
import Derived.Test.YtabldlhigjhkeaaDoorRunS
import Derived.Test.YtabldlhigjhkeaaDoorRunI
import Derived.Test.YtabldlhigjhkeaaDoorRunBlk
import Derived.Test.YtabldlhigjhkeaaDoorTo
import Derived.Test.YtabldlhigjhkeaaDoorEq
import Derived.Test.YtabldlhigjhkeaaDoorSz
import Derived.Test.YtabldlhigjhkeaaDoorMark
import Derived.Test.YtabldlhigjhkeaaDoorMarkN
import Derived.Test.YtabldlhigjhkeaaDoorCt
import Derived.Test.YtabldlhigjhkeaaDoorRegLib
import Derived.Test.YtabldlhigjhkeaaDoorCertLib
namespace Go.Proofs.YtabldlhigjhkeaaDoor
open Go.RowKit

set_option linter.unusedVariables false
set_option linter.unusedSimpArgs false
set_option maxRecDepth 100000

set_option maxHeartbeats 16000000 in
theorem lawExactMchRun_any (m : MchMach) (irqs : List Int) (n : Int) (vm1 vm2 vm3 vm4 virqs : Value) (w : World) (hm1 : Sl w (Old w) vm1 m.regs) (hm2 : Sl w (Old w) vm2 m.mem) (hm3 : Sl w (Old w) vm3 m.ins) (hm4 : Sl w (Old w) vm4 m.outs) (hirqs : Sl w (Old w) virqs irqs) (hkm : m.Ok) (lf : Nat) (hF : Forms lf w) :
    Calls Tryd.prog 4 #[.agg #[vm1, .int .i64 m.pc, vm2, .int .i64 m.save, .bool m.lets, .bool m.waits, .int .i64 m.halt, vm3, vm4, .int .i64 m.count], virqs, .int .i64 n] w fun e w' => e = .returned (.bool true) ∧ Ext w w' := by
  obtain ⟨Am1, cm1, rfl, hlm1, hmm1⟩ := hm1.form
  obtain ⟨Am2, cm2, rfl, hlm2, hmm2⟩ := hm2.form
  obtain ⟨Am3, cm3, rfl, hlm3, hmm3⟩ := hm3.form
  obtain ⟨Am4, cm4, rfl, hlm4, hmm4⟩ := hm4.form
  obtain ⟨Airqs, cirqs, rfl, hlirqs, hmirqs⟩ := hirqs.form
  have hflirqs := blk_flat irqs (fun _ => rfl)
  by_cases hbigirqs : (1048576 : Int) < (irqs.length : Int)
  · go_enter Tryd.func4, Tryd.ntmps4
    go_wp2
    go_ret
    exact ⟨rfl, (Ext.auto)⟩
  have nirqs : Bulk.blk irqs ≤ 1048576 := by omega
  clear hflirqs
  have b1_ := blk_len m.regs
  have b2_ := blk_len m.mem
  have b3_ := blk_len m.ins
  have b4_ := blk_len m.outs
  have hbo_ : Bulk.blk m = Bulk.blk m.regs + Bulk.blk m.mem + Bulk.blk m.ins + Bulk.blk m.outs := rfl
  go_enter Tryd.func4, Tryd.ntmps4
  go_wp2_with fail
  have he0 : Ext w (w.alloc (Obj.cells #[(.slice Am1 m.regs.length cm1), .int .i64 m.pc, (.slice Am2 m.mem.length cm2), .int .i64 m.save, .bool m.lets, .bool m.waits, .int .i64 m.halt, (.slice Am3 m.ins.length cm3), (.slice Am4 m.outs.length cm4), .int .i64 m.count] 24)) := (Ext.auto)
  have hs0 : w.heap.size + 1 ≤ ((w.alloc (Obj.cells #[(.slice Am1 m.regs.length cm1), .int .i64 m.pc, (.slice Am2 m.mem.length cm2), .int .i64 m.save, .bool m.lets, .bool m.waits, .int .i64 m.halt, (.slice Am3 m.ins.length cm3), (.slice Am4 m.outs.length cm4), .int .i64 m.count] 24))).heap.size := by simp
  have hq0 := hide (show ((w.alloc (Obj.cells #[(.slice Am1 m.regs.length cm1), .int .i64 m.pc, (.slice Am2 m.mem.length cm2), .int .i64 m.save, .bool m.lets, .bool m.waits, .int .i64 m.halt, (.slice Am3 m.ins.length cm3), (.slice Am4 m.outs.length cm4), .int .i64 m.count] 24))).heap.size = w.heap.size + 1 by simp)
  have hBm_0 : Bx (w.alloc (Obj.cells #[(.slice Am1 m.regs.length cm1), .int .i64 m.pc, (.slice Am2 m.mem.length cm2), .int .i64 m.save, .bool m.lets, .bool m.waits, .int .i64 m.halt, (.slice Am3 m.ins.length cm3), (.slice Am4 m.outs.length cm4), .int .i64 m.count] 24)) (w.heap.size) [(.slice Am1 m.regs.length cm1), .int .i64 m.pc, (.slice Am2 m.mem.length cm2), .int .i64 m.save, .bool m.lets, .bool m.waits, .int .i64 m.halt, (.slice Am3 m.ins.length cm3), (.slice Am4 m.outs.length cm4), .int .i64 m.count] := (by have := (Bx.new w #[(.slice Am1 m.regs.length cm1), .int .i64 m.pc, (.slice Am2 m.mem.length cm2), .int .i64 m.save, .bool m.lets, .bool m.waits, .int .i64 m.halt, (.slice Am3 m.ins.length cm3), (.slice Am4 m.outs.length cm4), .int .i64 m.count] 24); simpa using this)
  have hFm_0 : ∀ oo, ((w.alloc (Obj.cells #[(.slice Am1 m.regs.length cm1), .int .i64 m.pc, (.slice Am2 m.mem.length cm2), .int .i64 m.save, .bool m.lets, .bool m.waits, .int .i64 m.halt, (.slice Am3 m.ins.length cm3), (.slice Am4 m.outs.length cm4), .int .i64 m.count] 24))).frozen? ⟨w.heap.size, oo, none⟩ = false := fun oo => by simp
  generalize (w.alloc (Obj.cells #[(.slice Am1 m.regs.length cm1), .int .i64 m.pc, (.slice Am2 m.mem.length cm2), .int .i64 m.save, .bool m.lets, .bool m.waits, .int .i64 m.halt, (.slice Am3 m.ins.length cm3), (.slice Am4 m.outs.length cm4), .int .i64 m.count] 24)) = w0 at *
  have ym : w.heap.size < w0.heap.size := by omega
  have xm0 := hBm_0 0 _ rfl
  have xm1 := hBm_0 1 _ rfl
  have xm2 := hBm_0 2 _ rfl
  have xm3 := hBm_0 3 _ rfl
  have xm4 := hBm_0 4 _ rfl
  have xm5 := hBm_0 5 _ rfl
  have xm6 := hBm_0 6 _ rfl
  have xm7 := hBm_0 7 _ rfl
  have xm8 := hBm_0 8 _ rfl
  have xm9 := hBm_0 9 _ rfl
  go_wp2_with fail
  clear xm0 xm1 xm2 xm3 xm4 xm5 xm6 xm7 xm8 xm9 ym
  refine (sz_MchMach m _ _ _ _ 1048576 _ (hm1.ext (Ext.trans he0 (Ext.auto))) (hm2.ext (Ext.trans he0 (Ext.auto))) (hm3.ext (Ext.trans he0 (Ext.auto))) (hm4.ext (Ext.trans he0 (Ext.auto))) (by omega) (by omega)).mono ?_
  rintro e w1 ⟨rzm, rfl, hr, hy⟩
  have hx1 : Ext w0 w1 := Ext.trans (Ext.auto) hy
  have hs1 := hx1.size
  have he1 : Ext w w1 := he0.trans hx1
  have hBm_1 : Bx w1 (w.heap.size) [(.slice Am1 m.regs.length cm1), .int .i64 m.pc, (.slice Am2 m.mem.length cm2), .int .i64 m.save, .bool m.lets, .bool m.waits, .int .i64 m.halt, (.slice Am3 m.ins.length cm3), (.slice Am4 m.outs.length cm4), .int .i64 m.count] := hx1.bx hBm_0 (by omega)
  have hFm_1 : ∀ oo, w1.frozen? ⟨w.heap.size, oo, none⟩ = false := fun oo => (hx1.frozen (by omega)).trans (hFm_0 oo)
  clear hBm_0 hFm_0
  clear hy
  rcases hr with ⟨hq, hl0⟩ | ⟨hq, hl0⟩
  rotate_left
  · have hz : rzm < 0 := by omega
    clear hq
    go_wp2
    go_ret
    exact ⟨rfl, he1⟩
  have hzm : 0 ≤ rzm := by omega
  have hym : rzm ≤ 1048576 := by omega
  have nm : Bulk.blk m ≤ 1048576 := by omega
  have mm : ((Bulk.blk m : Nat) : Int) ≤ 1048576 - rzm := by omega
  have HQm := hide hq
  clear hq hl0
  have ym : w.heap.size < w1.heap.size := by omega
  have xm0 := hBm_1 0 _ rfl
  have xm1 := hBm_1 1 _ rfl
  have xm2 := hBm_1 2 _ rfl
  have xm3 := hBm_1 3 _ rfl
  have xm4 := hBm_1 4 _ rfl
  have xm5 := hBm_1 5 _ rfl
  have xm6 := hBm_1 6 _ rfl
  have xm7 := hBm_1 7 _ rfl
  have xm8 := hBm_1 8 _ rfl
  have xm9 := hBm_1 9 _ rfl
  go_wp2_with fail
  clear xm0 xm1 xm2 xm3 xm4 xm5 xm6 xm7 xm8 xm9 ym
  refine (to_MchMach m _ _ _ _ _ (hm1.ext (Ext.trans he1 (Ext.auto))) (hm2.ext (Ext.trans he1 (Ext.auto))) (hm3.ext (Ext.trans he1 (Ext.auto))) (hm4.ext (Ext.trans he1 (Ext.auto))) nm).mono ?_
  rintro e w2 ⟨r_pm1, r_pm2, r_pm3, r_pm4, F_pm1, F_pm2, F_pm3, F_pm4, rfl, ho_pm1, ho_pm2, ho_pm3, ho_pm4, hf_pm, hy⟩
  have hx2 : Ext w1 w2 := Ext.trans (Ext.auto) hy
  have hs2 := hx2.size
  have he2 : Ext w w2 := he1.trans hx2
  have hBm_2 : Bx w2 (w.heap.size) [(.slice Am1 m.regs.length cm1), .int .i64 m.pc, (.slice Am2 m.mem.length cm2), .int .i64 m.save, .bool m.lets, .bool m.waits, .int .i64 m.halt, (.slice Am3 m.ins.length cm3), (.slice Am4 m.outs.length cm4), .int .i64 m.count] := hx2.bx hBm_1 (by omega)
  have hFm_2 : ∀ oo, w2.frozen? ⟨w.heap.size, oo, none⟩ = false := fun oo => (hx2.frozen (by omega)).trans (hFm_1 oo)
  clear hBm_1 hFm_1
  clear hy
  obtain ⟨A_pm1, c_pm1, rfl, -, -⟩ := ho_pm1.sl.form
  obtain ⟨A_pm2, c_pm2, rfl, -, -⟩ := ho_pm2.sl.form
  obtain ⟨A_pm3, c_pm3, rfl, -, -⟩ := ho_pm3.sl.form
  obtain ⟨A_pm4, c_pm4, rfl, -, -⟩ := ho_pm4.sl.form
  have fr_pm : Fr w1 w2 (F_pm1 ++ F_pm2 ++ F_pm3 ++ F_pm4) := hf_pm.mk1 (by first | exact Nat.le_refl _ | (simp; done)) (Nat.le_refl _)
  clear hf_pm
  go_wp2_with fail
  refine (to_ListInt irqs _ _ (hirqs.ext (Ext.trans he2 (Ext.auto))) nirqs).mono ?_
  rintro e w3 ⟨r_pirqs1, F_pirqs1, rfl, ho_pirqs1, hf_pirqs, hy⟩
  have hx3 : Ext w2 w3 := Ext.trans (Ext.auto) hy
  have hs3 := hx3.size
  have he3 : Ext w w3 := he2.trans hx3
  have hBm_3 : Bx w3 (w.heap.size) [(.slice Am1 m.regs.length cm1), .int .i64 m.pc, (.slice Am2 m.mem.length cm2), .int .i64 m.save, .bool m.lets, .bool m.waits, .int .i64 m.halt, (.slice Am3 m.ins.length cm3), (.slice Am4 m.outs.length cm4), .int .i64 m.count] := hx3.bx hBm_2 (by omega)
  have hFm_3 : ∀ oo, w3.frozen? ⟨w.heap.size, oo, none⟩ = false := fun oo => (hx3.frozen (by omega)).trans (hFm_2 oo)
  clear hBm_2 hFm_2
  clear hy
  obtain ⟨A_pirqs1, c_pirqs1, rfl, -, -⟩ := ho_pirqs1.sl.form
  have fr_pirqs : Fr w2 w3 (F_pirqs1) := hf_pirqs.mk1 (by first | exact Nat.le_refl _ | (simp; done)) (Nat.le_refl _)
  clear hf_pirqs
  go_wp2_with fail
  refine (specMchRun_p m irqs n _ _ _ _ _ _ ((OwnSl.up ho_pm1 (fr_pm.inl.inl.inl.mk1 (Nat.le_refl _) (by omega)) hx3).old (fr_pm.inl.inl.inl.mk1 (Nat.le_refl _) (by omega))) ((OwnSl.up ho_pm2 (fr_pm.inl.inl.inr.mk1 (Nat.le_refl _) (by omega)) hx3).old (fr_pm.inl.inl.inr.mk1 (Nat.le_refl _) (by omega))) ((OwnSl.up ho_pm3 (fr_pm.inl.inr.mk1 (Nat.le_refl _) (by omega)) hx3).old (fr_pm.inl.inr.mk1 (Nat.le_refl _) (by omega))) ((OwnSl.up ho_pm4 (fr_pm.inr.mk1 (Nat.le_refl _) (by omega)) hx3).old (fr_pm.inr.mk1 (Nat.le_refl _) (by omega))) ((OwnSl.up ho_pirqs1 (fr_pirqs.mk1 (Nat.le_refl _) (by omega)) (Ext.refl _)).old (fr_pirqs.mk1 (Nat.le_refl _) (by omega))) (by omega) (by omega) (by omega) (by omega) (by omega)).mono ?_
  rintro e w4 ⟨r_w1, r_w2, r_w3, r_w4, F_w1, F_w2, F_w3, F_w4, rfl, ho_w1, ho_w2, ho_w3, ho_w4, hf_w, hy⟩
  have hx4 : Ext w3 w4 := Ext.trans (Ext.auto) hy
  have hs4 := hx4.size
  have he4 : Ext w w4 := he3.trans hx4
  have hBm_4 : Bx w4 (w.heap.size) [(.slice Am1 m.regs.length cm1), .int .i64 m.pc, (.slice Am2 m.mem.length cm2), .int .i64 m.save, .bool m.lets, .bool m.waits, .int .i64 m.halt, (.slice Am3 m.ins.length cm3), (.slice Am4 m.outs.length cm4), .int .i64 m.count] := hx4.bx hBm_3 (by omega)
  have hFm_4 : ∀ oo, w4.frozen? ⟨w.heap.size, oo, none⟩ = false := fun oo => (hx4.frozen (by omega)).trans (hFm_3 oo)
  clear hBm_3 hFm_3
  clear hy
  obtain ⟨A_w1, c_w1, rfl, -, -⟩ := ho_w1.sl.form
  obtain ⟨A_w2, c_w2, rfl, -, -⟩ := ho_w2.sl.form
  obtain ⟨A_w3, c_w3, rfl, -, -⟩ := ho_w3.sl.form
  obtain ⟨A_w4, c_w4, rfl, -, -⟩ := ho_w4.sl.form
  have fr_w : Fr w3 w4 (F_w1 ++ F_w2 ++ F_w3 ++ F_w4) := hf_w.mk1 (by first | exact Nat.le_refl _ | (simp; done)) (Nat.le_refl _)
  clear hf_w
  have ym : w.heap.size < w4.heap.size := by omega
  have xm0 := hBm_4 0 _ rfl
  have xm1 := hBm_4 1 _ rfl
  have xm2 := hBm_4 2 _ rfl
  have xm3 := hBm_4 3 _ rfl
  have xm4 := hBm_4 4 _ rfl
  have xm5 := hBm_4 5 _ rfl
  have xm6 := hBm_4 6 _ rfl
  have xm7 := hBm_4 7 _ rfl
  have xm8 := hBm_4 8 _ rfl
  have xm9 := hBm_4 9 _ rfl
  go_wp2_with fail
  clear xm0 xm1 xm2 xm3 xm4 xm5 xm6 xm7 xm8 xm9 ym
  have hx5 : Ext w4 (w4.alloc (Obj.cells #[(.slice A_w1 ((mRun m irqs n).regs).length c_w1), .int .i64 ((mRun m irqs n).pc), (.slice A_w2 ((mRun m irqs n).mem).length c_w2), .int .i64 ((mRun m irqs n).save), .bool (mRun m irqs n).lets, .bool (mRun m irqs n).waits, .int .i64 ((mRun m irqs n).halt), (.slice A_w3 ((mRun m irqs n).ins).length c_w3), (.slice A_w4 ((mRun m irqs n).outs).length c_w4), .int .i64 ((mRun m irqs n).count)] 26)) := (Ext.auto)
  have hs5 : w4.heap.size + 1 ≤ ((w4.alloc (Obj.cells #[(.slice A_w1 ((mRun m irqs n).regs).length c_w1), .int .i64 ((mRun m irqs n).pc), (.slice A_w2 ((mRun m irqs n).mem).length c_w2), .int .i64 ((mRun m irqs n).save), .bool (mRun m irqs n).lets, .bool (mRun m irqs n).waits, .int .i64 ((mRun m irqs n).halt), (.slice A_w3 ((mRun m irqs n).ins).length c_w3), (.slice A_w4 ((mRun m irqs n).outs).length c_w4), .int .i64 ((mRun m irqs n).count)] 26))).heap.size := by simp
  have he5 : Ext w (w4.alloc (Obj.cells #[(.slice A_w1 ((mRun m irqs n).regs).length c_w1), .int .i64 ((mRun m irqs n).pc), (.slice A_w2 ((mRun m irqs n).mem).length c_w2), .int .i64 ((mRun m irqs n).save), .bool (mRun m irqs n).lets, .bool (mRun m irqs n).waits, .int .i64 ((mRun m irqs n).halt), (.slice A_w3 ((mRun m irqs n).ins).length c_w3), (.slice A_w4 ((mRun m irqs n).outs).length c_w4), .int .i64 ((mRun m irqs n).count)] 26)) := he4.trans hx5
  have hBm_5 : Bx (w4.alloc (Obj.cells #[(.slice A_w1 ((mRun m irqs n).regs).length c_w1), .int .i64 ((mRun m irqs n).pc), (.slice A_w2 ((mRun m irqs n).mem).length c_w2), .int .i64 ((mRun m irqs n).save), .bool (mRun m irqs n).lets, .bool (mRun m irqs n).waits, .int .i64 ((mRun m irqs n).halt), (.slice A_w3 ((mRun m irqs n).ins).length c_w3), (.slice A_w4 ((mRun m irqs n).outs).length c_w4), .int .i64 ((mRun m irqs n).count)] 26)) (w.heap.size) [(.slice Am1 m.regs.length cm1), .int .i64 m.pc, (.slice Am2 m.mem.length cm2), .int .i64 m.save, .bool m.lets, .bool m.waits, .int .i64 m.halt, (.slice Am3 m.ins.length cm3), (.slice Am4 m.outs.length cm4), .int .i64 m.count] := hx5.bx hBm_4 (by omega)
  have hFm_5 : ∀ oo, ((w4.alloc (Obj.cells #[(.slice A_w1 ((mRun m irqs n).regs).length c_w1), .int .i64 ((mRun m irqs n).pc), (.slice A_w2 ((mRun m irqs n).mem).length c_w2), .int .i64 ((mRun m irqs n).save), .bool (mRun m irqs n).lets, .bool (mRun m irqs n).waits, .int .i64 ((mRun m irqs n).halt), (.slice A_w3 ((mRun m irqs n).ins).length c_w3), (.slice A_w4 ((mRun m irqs n).outs).length c_w4), .int .i64 ((mRun m irqs n).count)] 26))).frozen? ⟨w.heap.size, oo, none⟩ = false := fun oo => (hx5.frozen (by omega)).trans (hFm_4 oo)
  have hBw_5 : Bx (w4.alloc (Obj.cells #[(.slice A_w1 ((mRun m irqs n).regs).length c_w1), .int .i64 ((mRun m irqs n).pc), (.slice A_w2 ((mRun m irqs n).mem).length c_w2), .int .i64 ((mRun m irqs n).save), .bool (mRun m irqs n).lets, .bool (mRun m irqs n).waits, .int .i64 ((mRun m irqs n).halt), (.slice A_w3 ((mRun m irqs n).ins).length c_w3), (.slice A_w4 ((mRun m irqs n).outs).length c_w4), .int .i64 ((mRun m irqs n).count)] 26)) (w4.heap.size) [(.slice A_w1 ((mRun m irqs n).regs).length c_w1), .int .i64 ((mRun m irqs n).pc), (.slice A_w2 ((mRun m irqs n).mem).length c_w2), .int .i64 ((mRun m irqs n).save), .bool (mRun m irqs n).lets, .bool (mRun m irqs n).waits, .int .i64 ((mRun m irqs n).halt), (.slice A_w3 ((mRun m irqs n).ins).length c_w3), (.slice A_w4 ((mRun m irqs n).outs).length c_w4), .int .i64 ((mRun m irqs n).count)] := by have := (by have := (Bx.new w4 #[(.slice A_w1 ((mRun m irqs n).regs).length c_w1), .int .i64 ((mRun m irqs n).pc), (.slice A_w2 ((mRun m irqs n).mem).length c_w2), .int .i64 ((mRun m irqs n).save), .bool (mRun m irqs n).lets, .bool (mRun m irqs n).waits, .int .i64 ((mRun m irqs n).halt), (.slice A_w3 ((mRun m irqs n).ins).length c_w3), (.slice A_w4 ((mRun m irqs n).outs).length c_w4), .int .i64 ((mRun m irqs n).count)] 26); simpa using this); exact this
  have hFw_5 : ∀ oo, ((w4.alloc (Obj.cells #[(.slice A_w1 ((mRun m irqs n).regs).length c_w1), .int .i64 ((mRun m irqs n).pc), (.slice A_w2 ((mRun m irqs n).mem).length c_w2), .int .i64 ((mRun m irqs n).save), .bool (mRun m irqs n).lets, .bool (mRun m irqs n).waits, .int .i64 ((mRun m irqs n).halt), (.slice A_w3 ((mRun m irqs n).ins).length c_w3), (.slice A_w4 ((mRun m irqs n).outs).length c_w4), .int .i64 ((mRun m irqs n).count)] 26))).frozen? ⟨w4.heap.size, oo, none⟩ = false := fun oo => by simp
  generalize (w4.alloc (Obj.cells #[(.slice A_w1 ((mRun m irqs n).regs).length c_w1), .int .i64 ((mRun m irqs n).pc), (.slice A_w2 ((mRun m irqs n).mem).length c_w2), .int .i64 ((mRun m irqs n).save), .bool (mRun m irqs n).lets, .bool (mRun m irqs n).waits, .int .i64 ((mRun m irqs n).halt), (.slice A_w3 ((mRun m irqs n).ins).length c_w3), (.slice A_w4 ((mRun m irqs n).outs).length c_w4), .int .i64 ((mRun m irqs n).count)] 26)) = w5 at *
  clear hBm_4 hFm_4
  refine (to_MchMach m _ _ _ _ _ (hm1.ext (Ext.trans he5 (Ext.auto))) (hm2.ext (Ext.trans he5 (Ext.auto))) (hm3.ext (Ext.trans he5 (Ext.auto))) (hm4.ext (Ext.trans he5 (Ext.auto))) nm).mono ?_
  rintro e w6 ⟨r_xm1, r_xm2, r_xm3, r_xm4, F_xm1, F_xm2, F_xm3, F_xm4, rfl, ho_xm1, ho_xm2, ho_xm3, ho_xm4, hf_xm, hy⟩
  have hx6 : Ext w5 w6 := Ext.trans (Ext.auto) hy
  have hs6 := hx6.size
  have he6 : Ext w w6 := he5.trans hx6
  have hBm_6 : Bx w6 (w.heap.size) [(.slice Am1 m.regs.length cm1), .int .i64 m.pc, (.slice Am2 m.mem.length cm2), .int .i64 m.save, .bool m.lets, .bool m.waits, .int .i64 m.halt, (.slice Am3 m.ins.length cm3), (.slice Am4 m.outs.length cm4), .int .i64 m.count] := hx6.bx hBm_5 (by omega)
  have hFm_6 : ∀ oo, w6.frozen? ⟨w.heap.size, oo, none⟩ = false := fun oo => (hx6.frozen (by omega)).trans (hFm_5 oo)
  have hBw_6 : Bx w6 (w4.heap.size) [(.slice A_w1 ((mRun m irqs n).regs).length c_w1), .int .i64 ((mRun m irqs n).pc), (.slice A_w2 ((mRun m irqs n).mem).length c_w2), .int .i64 ((mRun m irqs n).save), .bool (mRun m irqs n).lets, .bool (mRun m irqs n).waits, .int .i64 ((mRun m irqs n).halt), (.slice A_w3 ((mRun m irqs n).ins).length c_w3), (.slice A_w4 ((mRun m irqs n).outs).length c_w4), .int .i64 ((mRun m irqs n).count)] := hx6.bx hBw_5 (by omega)
  have hFw_6 : ∀ oo, w6.frozen? ⟨w4.heap.size, oo, none⟩ = false := fun oo => (hx6.frozen (by omega)).trans (hFw_5 oo)
  clear hBm_5 hFm_5 hBw_5 hFw_5
  clear hy
  obtain ⟨A_xm1, c_xm1, rfl, -, -⟩ := ho_xm1.sl.form
  obtain ⟨A_xm2, c_xm2, rfl, -, -⟩ := ho_xm2.sl.form
  obtain ⟨A_xm3, c_xm3, rfl, -, -⟩ := ho_xm3.sl.form
  obtain ⟨A_xm4, c_xm4, rfl, -, -⟩ := ho_xm4.sl.form
  have fr_xm : Fr w5 w6 (F_xm1 ++ F_xm2 ++ F_xm3 ++ F_xm4) := hf_xm.mk1 (by first | exact Nat.le_refl _ | (simp; done)) (Nat.le_refl _)
  clear hf_xm
  go_wp2_with fail
  have hx7 : Ext w6 (w6.alloc (Obj.cells #[(.slice A_xm1 (m.regs).length c_xm1), .int .i64 m.pc, (.slice A_xm2 (m.mem).length c_xm2), .int .i64 m.save, .bool m.lets, .bool m.waits, .int .i64 m.halt, (.slice A_xm3 (m.ins).length c_xm3), (.slice A_xm4 (m.outs).length c_xm4), .int .i64 m.count] 26)) := (Ext.auto)
  have hs7 : w6.heap.size + 1 ≤ ((w6.alloc (Obj.cells #[(.slice A_xm1 (m.regs).length c_xm1), .int .i64 m.pc, (.slice A_xm2 (m.mem).length c_xm2), .int .i64 m.save, .bool m.lets, .bool m.waits, .int .i64 m.halt, (.slice A_xm3 (m.ins).length c_xm3), (.slice A_xm4 (m.outs).length c_xm4), .int .i64 m.count] 26))).heap.size := by simp
  have he7 : Ext w (w6.alloc (Obj.cells #[(.slice A_xm1 (m.regs).length c_xm1), .int .i64 m.pc, (.slice A_xm2 (m.mem).length c_xm2), .int .i64 m.save, .bool m.lets, .bool m.waits, .int .i64 m.halt, (.slice A_xm3 (m.ins).length c_xm3), (.slice A_xm4 (m.outs).length c_xm4), .int .i64 m.count] 26)) := he6.trans hx7
  have hBm_7 : Bx (w6.alloc (Obj.cells #[(.slice A_xm1 (m.regs).length c_xm1), .int .i64 m.pc, (.slice A_xm2 (m.mem).length c_xm2), .int .i64 m.save, .bool m.lets, .bool m.waits, .int .i64 m.halt, (.slice A_xm3 (m.ins).length c_xm3), (.slice A_xm4 (m.outs).length c_xm4), .int .i64 m.count] 26)) (w.heap.size) [(.slice Am1 m.regs.length cm1), .int .i64 m.pc, (.slice Am2 m.mem.length cm2), .int .i64 m.save, .bool m.lets, .bool m.waits, .int .i64 m.halt, (.slice Am3 m.ins.length cm3), (.slice Am4 m.outs.length cm4), .int .i64 m.count] := hx7.bx hBm_6 (by omega)
  have hFm_7 : ∀ oo, ((w6.alloc (Obj.cells #[(.slice A_xm1 (m.regs).length c_xm1), .int .i64 m.pc, (.slice A_xm2 (m.mem).length c_xm2), .int .i64 m.save, .bool m.lets, .bool m.waits, .int .i64 m.halt, (.slice A_xm3 (m.ins).length c_xm3), (.slice A_xm4 (m.outs).length c_xm4), .int .i64 m.count] 26))).frozen? ⟨w.heap.size, oo, none⟩ = false := fun oo => (hx7.frozen (by omega)).trans (hFm_6 oo)
  have hBw_7 : Bx (w6.alloc (Obj.cells #[(.slice A_xm1 (m.regs).length c_xm1), .int .i64 m.pc, (.slice A_xm2 (m.mem).length c_xm2), .int .i64 m.save, .bool m.lets, .bool m.waits, .int .i64 m.halt, (.slice A_xm3 (m.ins).length c_xm3), (.slice A_xm4 (m.outs).length c_xm4), .int .i64 m.count] 26)) (w4.heap.size) [(.slice A_w1 ((mRun m irqs n).regs).length c_w1), .int .i64 ((mRun m irqs n).pc), (.slice A_w2 ((mRun m irqs n).mem).length c_w2), .int .i64 ((mRun m irqs n).save), .bool (mRun m irqs n).lets, .bool (mRun m irqs n).waits, .int .i64 ((mRun m irqs n).halt), (.slice A_w3 ((mRun m irqs n).ins).length c_w3), (.slice A_w4 ((mRun m irqs n).outs).length c_w4), .int .i64 ((mRun m irqs n).count)] := hx7.bx hBw_6 (by omega)
  have hFw_7 : ∀ oo, ((w6.alloc (Obj.cells #[(.slice A_xm1 (m.regs).length c_xm1), .int .i64 m.pc, (.slice A_xm2 (m.mem).length c_xm2), .int .i64 m.save, .bool m.lets, .bool m.waits, .int .i64 m.halt, (.slice A_xm3 (m.ins).length c_xm3), (.slice A_xm4 (m.outs).length c_xm4), .int .i64 m.count] 26))).frozen? ⟨w4.heap.size, oo, none⟩ = false := fun oo => (hx7.frozen (by omega)).trans (hFw_6 oo)
  have hBxm_7 : Bx (w6.alloc (Obj.cells #[(.slice A_xm1 (m.regs).length c_xm1), .int .i64 m.pc, (.slice A_xm2 (m.mem).length c_xm2), .int .i64 m.save, .bool m.lets, .bool m.waits, .int .i64 m.halt, (.slice A_xm3 (m.ins).length c_xm3), (.slice A_xm4 (m.outs).length c_xm4), .int .i64 m.count] 26)) (w6.heap.size) [(.slice A_xm1 (m.regs).length c_xm1), .int .i64 m.pc, (.slice A_xm2 (m.mem).length c_xm2), .int .i64 m.save, .bool m.lets, .bool m.waits, .int .i64 m.halt, (.slice A_xm3 (m.ins).length c_xm3), (.slice A_xm4 (m.outs).length c_xm4), .int .i64 m.count] := by have := (by have := (Bx.new w6 #[(.slice A_xm1 (m.regs).length c_xm1), .int .i64 m.pc, (.slice A_xm2 (m.mem).length c_xm2), .int .i64 m.save, .bool m.lets, .bool m.waits, .int .i64 m.halt, (.slice A_xm3 (m.ins).length c_xm3), (.slice A_xm4 (m.outs).length c_xm4), .int .i64 m.count] 26); simpa using this); exact this
  have hFxm_7 : ∀ oo, ((w6.alloc (Obj.cells #[(.slice A_xm1 (m.regs).length c_xm1), .int .i64 m.pc, (.slice A_xm2 (m.mem).length c_xm2), .int .i64 m.save, .bool m.lets, .bool m.waits, .int .i64 m.halt, (.slice A_xm3 (m.ins).length c_xm3), (.slice A_xm4 (m.outs).length c_xm4), .int .i64 m.count] 26))).frozen? ⟨w6.heap.size, oo, none⟩ = false := fun oo => by simp
  generalize (w6.alloc (Obj.cells #[(.slice A_xm1 (m.regs).length c_xm1), .int .i64 m.pc, (.slice A_xm2 (m.mem).length c_xm2), .int .i64 m.save, .bool m.lets, .bool m.waits, .int .i64 m.halt, (.slice A_xm3 (m.ins).length c_xm3), (.slice A_xm4 (m.outs).length c_xm4), .int .i64 m.count] 26)) = w7 at *
  clear hBm_6 hFm_6 hBw_6 hFw_6
  refine (to_ListInt irqs _ _ (hirqs.ext (Ext.trans he7 (Ext.auto))) nirqs).mono ?_
  rintro e w8 ⟨r_xirqs1, F_xirqs1, rfl, ho_xirqs1, hf_xirqs, hy⟩
  have hx8 : Ext w7 w8 := Ext.trans (Ext.auto) hy
  have hs8 := hx8.size
  have he8 : Ext w w8 := he7.trans hx8
  have hBm_8 : Bx w8 (w.heap.size) [(.slice Am1 m.regs.length cm1), .int .i64 m.pc, (.slice Am2 m.mem.length cm2), .int .i64 m.save, .bool m.lets, .bool m.waits, .int .i64 m.halt, (.slice Am3 m.ins.length cm3), (.slice Am4 m.outs.length cm4), .int .i64 m.count] := hx8.bx hBm_7 (by omega)
  have hFm_8 : ∀ oo, w8.frozen? ⟨w.heap.size, oo, none⟩ = false := fun oo => (hx8.frozen (by omega)).trans (hFm_7 oo)
  have hBw_8 : Bx w8 (w4.heap.size) [(.slice A_w1 ((mRun m irqs n).regs).length c_w1), .int .i64 ((mRun m irqs n).pc), (.slice A_w2 ((mRun m irqs n).mem).length c_w2), .int .i64 ((mRun m irqs n).save), .bool (mRun m irqs n).lets, .bool (mRun m irqs n).waits, .int .i64 ((mRun m irqs n).halt), (.slice A_w3 ((mRun m irqs n).ins).length c_w3), (.slice A_w4 ((mRun m irqs n).outs).length c_w4), .int .i64 ((mRun m irqs n).count)] := hx8.bx hBw_7 (by omega)
  have hFw_8 : ∀ oo, w8.frozen? ⟨w4.heap.size, oo, none⟩ = false := fun oo => (hx8.frozen (by omega)).trans (hFw_7 oo)
  have hBxm_8 : Bx w8 (w6.heap.size) [(.slice A_xm1 (m.regs).length c_xm1), .int .i64 m.pc, (.slice A_xm2 (m.mem).length c_xm2), .int .i64 m.save, .bool m.lets, .bool m.waits, .int .i64 m.halt, (.slice A_xm3 (m.ins).length c_xm3), (.slice A_xm4 (m.outs).length c_xm4), .int .i64 m.count] := hx8.bx hBxm_7 (by omega)
  have hFxm_8 : ∀ oo, w8.frozen? ⟨w6.heap.size, oo, none⟩ = false := fun oo => (hx8.frozen (by omega)).trans (hFxm_7 oo)
  clear hBm_7 hFm_7 hBw_7 hFw_7 hBxm_7 hFxm_7
  clear hy
  obtain ⟨A_xirqs1, c_xirqs1, rfl, -, -⟩ := ho_xirqs1.sl.form
  have fr_xirqs : Fr w7 w8 (F_xirqs1) := hf_xirqs.mk1 (by first | exact Nat.le_refl _ | (simp; done)) (Nat.le_refl _)
  clear hf_xirqs
  have yxm : w6.heap.size < w8.heap.size := by omega
  have xxm0 := hBxm_8 0 _ rfl
  have xxm1 := hBxm_8 1 _ rfl
  have xxm2 := hBxm_8 2 _ rfl
  have xxm3 := hBxm_8 3 _ rfl
  have xxm4 := hBxm_8 4 _ rfl
  have xxm5 := hBxm_8 5 _ rfl
  have xxm6 := hBxm_8 6 _ rfl
  have xxm7 := hBxm_8 7 _ rfl
  have xxm8 := hBxm_8 8 _ rfl
  have xxm9 := hBxm_8 9 _ rfl
  go_wp2_with fail
  clear xxm0 xxm1 xxm2 xxm3 xxm4 xxm5 xxm6 xxm7 xxm8 xxm9 yxm
  refine (implMchRun_p m irqs n _ _ _ _ _ _ ((OwnSl.up ho_xm1 (fr_xm.inl.inl.inl.mk1 (Nat.le_refl _) (by omega)) (Ext.trans hx7 hx8)).old (fr_xm.inl.inl.inl.mk1 (Nat.le_refl _) (by omega))) ((OwnSl.up ho_xm2 (fr_xm.inl.inl.inr.mk1 (Nat.le_refl _) (by omega)) (Ext.trans hx7 hx8)).old (fr_xm.inl.inl.inr.mk1 (Nat.le_refl _) (by omega))) ((OwnSl.up ho_xm3 (fr_xm.inl.inr.mk1 (Nat.le_refl _) (by omega)) (Ext.trans hx7 hx8)).old (fr_xm.inl.inr.mk1 (Nat.le_refl _) (by omega))) ((OwnSl.up ho_xm4 (fr_xm.inr.mk1 (Nat.le_refl _) (by omega)) (Ext.trans hx7 hx8)).old (fr_xm.inr.mk1 (Nat.le_refl _) (by omega))) ((OwnSl.up ho_xirqs1 (fr_xirqs.mk1 (Nat.le_refl _) (by omega)) (Ext.refl _)).old (fr_xirqs.mk1 (Nat.le_refl _) (by omega))) (by omega) (by omega) (by omega) (by omega) (by omega) lf (hF.ext (Ext.trans he8 (Ext.auto)))).mono ?_
  rintro e w9 ⟨r_g1, r_g2, r_g3, r_g4, F_g1, F_g2, F_g3, F_g4, rfl, ho_g1, ho_g2, ho_g3, ho_g4, hf_g, hy⟩
  have hx9 : Ext w8 w9 := Ext.trans (Ext.auto) hy
  have hs9 := hx9.size
  have he9 : Ext w w9 := he8.trans hx9
  have hBm_9 : Bx w9 (w.heap.size) [(.slice Am1 m.regs.length cm1), .int .i64 m.pc, (.slice Am2 m.mem.length cm2), .int .i64 m.save, .bool m.lets, .bool m.waits, .int .i64 m.halt, (.slice Am3 m.ins.length cm3), (.slice Am4 m.outs.length cm4), .int .i64 m.count] := hx9.bx hBm_8 (by omega)
  have hFm_9 : ∀ oo, w9.frozen? ⟨w.heap.size, oo, none⟩ = false := fun oo => (hx9.frozen (by omega)).trans (hFm_8 oo)
  have hBw_9 : Bx w9 (w4.heap.size) [(.slice A_w1 ((mRun m irqs n).regs).length c_w1), .int .i64 ((mRun m irqs n).pc), (.slice A_w2 ((mRun m irqs n).mem).length c_w2), .int .i64 ((mRun m irqs n).save), .bool (mRun m irqs n).lets, .bool (mRun m irqs n).waits, .int .i64 ((mRun m irqs n).halt), (.slice A_w3 ((mRun m irqs n).ins).length c_w3), (.slice A_w4 ((mRun m irqs n).outs).length c_w4), .int .i64 ((mRun m irqs n).count)] := hx9.bx hBw_8 (by omega)
  have hFw_9 : ∀ oo, w9.frozen? ⟨w4.heap.size, oo, none⟩ = false := fun oo => (hx9.frozen (by omega)).trans (hFw_8 oo)
  have hBxm_9 : Bx w9 (w6.heap.size) [(.slice A_xm1 (m.regs).length c_xm1), .int .i64 m.pc, (.slice A_xm2 (m.mem).length c_xm2), .int .i64 m.save, .bool m.lets, .bool m.waits, .int .i64 m.halt, (.slice A_xm3 (m.ins).length c_xm3), (.slice A_xm4 (m.outs).length c_xm4), .int .i64 m.count] := hx9.bx hBxm_8 (by omega)
  have hFxm_9 : ∀ oo, w9.frozen? ⟨w6.heap.size, oo, none⟩ = false := fun oo => (hx9.frozen (by omega)).trans (hFxm_8 oo)
  clear hBm_8 hFm_8 hBw_8 hFw_8 hBxm_8 hFxm_8
  clear hy
  obtain ⟨A_g1, c_g1, rfl, -, -⟩ := ho_g1.sl.form
  obtain ⟨A_g2, c_g2, rfl, -, -⟩ := ho_g2.sl.form
  obtain ⟨A_g3, c_g3, rfl, -, -⟩ := ho_g3.sl.form
  obtain ⟨A_g4, c_g4, rfl, -, -⟩ := ho_g4.sl.form
  have fr_g : Fr w8 w9 (F_g1 ++ F_g2 ++ F_g3 ++ F_g4) := hf_g.mk1 (by first | exact Nat.le_refl _ | (simp; done)) (Nat.le_refl _)
  clear hf_g
  have yw : w4.heap.size < w9.heap.size := by omega
  have xw0 := hBw_9 0 _ rfl
  have xw1 := hBw_9 1 _ rfl
  have xw2 := hBw_9 2 _ rfl
  have xw3 := hBw_9 3 _ rfl
  have xw4 := hBw_9 4 _ rfl
  have xw5 := hBw_9 5 _ rfl
  have xw6 := hBw_9 6 _ rfl
  have xw7 := hBw_9 7 _ rfl
  have xw8 := hBw_9 8 _ rfl
  have xw9 := hBw_9 9 _ rfl
  go_wp2_with fail
  clear xw0 xw1 xw2 xw3 xw4 xw5 xw6 xw7 xw8 xw9 yw
  have hx10 : Ext w9 (w9.alloc (Obj.cells #[(.slice A_g1 ((mRun m irqs n).regs).length c_g1), .int .i64 ((mRun m irqs n).pc), (.slice A_g2 ((mRun m irqs n).mem).length c_g2), .int .i64 ((mRun m irqs n).save), .bool (mRun m irqs n).lets, .bool (mRun m irqs n).waits, .int .i64 ((mRun m irqs n).halt), (.slice A_g3 ((mRun m irqs n).ins).length c_g3), (.slice A_g4 ((mRun m irqs n).outs).length c_g4), .int .i64 ((mRun m irqs n).count)] 26)) := (Ext.auto)
  have hs10 : w9.heap.size + 1 ≤ ((w9.alloc (Obj.cells #[(.slice A_g1 ((mRun m irqs n).regs).length c_g1), .int .i64 ((mRun m irqs n).pc), (.slice A_g2 ((mRun m irqs n).mem).length c_g2), .int .i64 ((mRun m irqs n).save), .bool (mRun m irqs n).lets, .bool (mRun m irqs n).waits, .int .i64 ((mRun m irqs n).halt), (.slice A_g3 ((mRun m irqs n).ins).length c_g3), (.slice A_g4 ((mRun m irqs n).outs).length c_g4), .int .i64 ((mRun m irqs n).count)] 26))).heap.size := by simp
  have he10 : Ext w (w9.alloc (Obj.cells #[(.slice A_g1 ((mRun m irqs n).regs).length c_g1), .int .i64 ((mRun m irqs n).pc), (.slice A_g2 ((mRun m irqs n).mem).length c_g2), .int .i64 ((mRun m irqs n).save), .bool (mRun m irqs n).lets, .bool (mRun m irqs n).waits, .int .i64 ((mRun m irqs n).halt), (.slice A_g3 ((mRun m irqs n).ins).length c_g3), (.slice A_g4 ((mRun m irqs n).outs).length c_g4), .int .i64 ((mRun m irqs n).count)] 26)) := he9.trans hx10
  have hBm_10 : Bx (w9.alloc (Obj.cells #[(.slice A_g1 ((mRun m irqs n).regs).length c_g1), .int .i64 ((mRun m irqs n).pc), (.slice A_g2 ((mRun m irqs n).mem).length c_g2), .int .i64 ((mRun m irqs n).save), .bool (mRun m irqs n).lets, .bool (mRun m irqs n).waits, .int .i64 ((mRun m irqs n).halt), (.slice A_g3 ((mRun m irqs n).ins).length c_g3), (.slice A_g4 ((mRun m irqs n).outs).length c_g4), .int .i64 ((mRun m irqs n).count)] 26)) (w.heap.size) [(.slice Am1 m.regs.length cm1), .int .i64 m.pc, (.slice Am2 m.mem.length cm2), .int .i64 m.save, .bool m.lets, .bool m.waits, .int .i64 m.halt, (.slice Am3 m.ins.length cm3), (.slice Am4 m.outs.length cm4), .int .i64 m.count] := hx10.bx hBm_9 (by omega)
  have hFm_10 : ∀ oo, ((w9.alloc (Obj.cells #[(.slice A_g1 ((mRun m irqs n).regs).length c_g1), .int .i64 ((mRun m irqs n).pc), (.slice A_g2 ((mRun m irqs n).mem).length c_g2), .int .i64 ((mRun m irqs n).save), .bool (mRun m irqs n).lets, .bool (mRun m irqs n).waits, .int .i64 ((mRun m irqs n).halt), (.slice A_g3 ((mRun m irqs n).ins).length c_g3), (.slice A_g4 ((mRun m irqs n).outs).length c_g4), .int .i64 ((mRun m irqs n).count)] 26))).frozen? ⟨w.heap.size, oo, none⟩ = false := fun oo => (hx10.frozen (by omega)).trans (hFm_9 oo)
  have hBw_10 : Bx (w9.alloc (Obj.cells #[(.slice A_g1 ((mRun m irqs n).regs).length c_g1), .int .i64 ((mRun m irqs n).pc), (.slice A_g2 ((mRun m irqs n).mem).length c_g2), .int .i64 ((mRun m irqs n).save), .bool (mRun m irqs n).lets, .bool (mRun m irqs n).waits, .int .i64 ((mRun m irqs n).halt), (.slice A_g3 ((mRun m irqs n).ins).length c_g3), (.slice A_g4 ((mRun m irqs n).outs).length c_g4), .int .i64 ((mRun m irqs n).count)] 26)) (w4.heap.size) [(.slice A_w1 ((mRun m irqs n).regs).length c_w1), .int .i64 ((mRun m irqs n).pc), (.slice A_w2 ((mRun m irqs n).mem).length c_w2), .int .i64 ((mRun m irqs n).save), .bool (mRun m irqs n).lets, .bool (mRun m irqs n).waits, .int .i64 ((mRun m irqs n).halt), (.slice A_w3 ((mRun m irqs n).ins).length c_w3), (.slice A_w4 ((mRun m irqs n).outs).length c_w4), .int .i64 ((mRun m irqs n).count)] := hx10.bx hBw_9 (by omega)
  have hFw_10 : ∀ oo, ((w9.alloc (Obj.cells #[(.slice A_g1 ((mRun m irqs n).regs).length c_g1), .int .i64 ((mRun m irqs n).pc), (.slice A_g2 ((mRun m irqs n).mem).length c_g2), .int .i64 ((mRun m irqs n).save), .bool (mRun m irqs n).lets, .bool (mRun m irqs n).waits, .int .i64 ((mRun m irqs n).halt), (.slice A_g3 ((mRun m irqs n).ins).length c_g3), (.slice A_g4 ((mRun m irqs n).outs).length c_g4), .int .i64 ((mRun m irqs n).count)] 26))).frozen? ⟨w4.heap.size, oo, none⟩ = false := fun oo => (hx10.frozen (by omega)).trans (hFw_9 oo)
  have hBxm_10 : Bx (w9.alloc (Obj.cells #[(.slice A_g1 ((mRun m irqs n).regs).length c_g1), .int .i64 ((mRun m irqs n).pc), (.slice A_g2 ((mRun m irqs n).mem).length c_g2), .int .i64 ((mRun m irqs n).save), .bool (mRun m irqs n).lets, .bool (mRun m irqs n).waits, .int .i64 ((mRun m irqs n).halt), (.slice A_g3 ((mRun m irqs n).ins).length c_g3), (.slice A_g4 ((mRun m irqs n).outs).length c_g4), .int .i64 ((mRun m irqs n).count)] 26)) (w6.heap.size) [(.slice A_xm1 (m.regs).length c_xm1), .int .i64 m.pc, (.slice A_xm2 (m.mem).length c_xm2), .int .i64 m.save, .bool m.lets, .bool m.waits, .int .i64 m.halt, (.slice A_xm3 (m.ins).length c_xm3), (.slice A_xm4 (m.outs).length c_xm4), .int .i64 m.count] := hx10.bx hBxm_9 (by omega)
  have hFxm_10 : ∀ oo, ((w9.alloc (Obj.cells #[(.slice A_g1 ((mRun m irqs n).regs).length c_g1), .int .i64 ((mRun m irqs n).pc), (.slice A_g2 ((mRun m irqs n).mem).length c_g2), .int .i64 ((mRun m irqs n).save), .bool (mRun m irqs n).lets, .bool (mRun m irqs n).waits, .int .i64 ((mRun m irqs n).halt), (.slice A_g3 ((mRun m irqs n).ins).length c_g3), (.slice A_g4 ((mRun m irqs n).outs).length c_g4), .int .i64 ((mRun m irqs n).count)] 26))).frozen? ⟨w6.heap.size, oo, none⟩ = false := fun oo => (hx10.frozen (by omega)).trans (hFxm_9 oo)
  have hBg_10 : Bx (w9.alloc (Obj.cells #[(.slice A_g1 ((mRun m irqs n).regs).length c_g1), .int .i64 ((mRun m irqs n).pc), (.slice A_g2 ((mRun m irqs n).mem).length c_g2), .int .i64 ((mRun m irqs n).save), .bool (mRun m irqs n).lets, .bool (mRun m irqs n).waits, .int .i64 ((mRun m irqs n).halt), (.slice A_g3 ((mRun m irqs n).ins).length c_g3), (.slice A_g4 ((mRun m irqs n).outs).length c_g4), .int .i64 ((mRun m irqs n).count)] 26)) (w9.heap.size) [(.slice A_g1 ((mRun m irqs n).regs).length c_g1), .int .i64 ((mRun m irqs n).pc), (.slice A_g2 ((mRun m irqs n).mem).length c_g2), .int .i64 ((mRun m irqs n).save), .bool (mRun m irqs n).lets, .bool (mRun m irqs n).waits, .int .i64 ((mRun m irqs n).halt), (.slice A_g3 ((mRun m irqs n).ins).length c_g3), (.slice A_g4 ((mRun m irqs n).outs).length c_g4), .int .i64 ((mRun m irqs n).count)] := by have := (by have := (Bx.new w9 #[(.slice A_g1 ((mRun m irqs n).regs).length c_g1), .int .i64 ((mRun m irqs n).pc), (.slice A_g2 ((mRun m irqs n).mem).length c_g2), .int .i64 ((mRun m irqs n).save), .bool (mRun m irqs n).lets, .bool (mRun m irqs n).waits, .int .i64 ((mRun m irqs n).halt), (.slice A_g3 ((mRun m irqs n).ins).length c_g3), (.slice A_g4 ((mRun m irqs n).outs).length c_g4), .int .i64 ((mRun m irqs n).count)] 26); simpa using this); exact this
  have hFg_10 : ∀ oo, ((w9.alloc (Obj.cells #[(.slice A_g1 ((mRun m irqs n).regs).length c_g1), .int .i64 ((mRun m irqs n).pc), (.slice A_g2 ((mRun m irqs n).mem).length c_g2), .int .i64 ((mRun m irqs n).save), .bool (mRun m irqs n).lets, .bool (mRun m irqs n).waits, .int .i64 ((mRun m irqs n).halt), (.slice A_g3 ((mRun m irqs n).ins).length c_g3), (.slice A_g4 ((mRun m irqs n).outs).length c_g4), .int .i64 ((mRun m irqs n).count)] 26))).frozen? ⟨w9.heap.size, oo, none⟩ = false := fun oo => by simp
  generalize (w9.alloc (Obj.cells #[(.slice A_g1 ((mRun m irqs n).regs).length c_g1), .int .i64 ((mRun m irqs n).pc), (.slice A_g2 ((mRun m irqs n).mem).length c_g2), .int .i64 ((mRun m irqs n).save), .bool (mRun m irqs n).lets, .bool (mRun m irqs n).waits, .int .i64 ((mRun m irqs n).halt), (.slice A_g3 ((mRun m irqs n).ins).length c_g3), (.slice A_g4 ((mRun m irqs n).outs).length c_g4), .int .i64 ((mRun m irqs n).count)] 26)) = w10 at *
  clear hBm_9 hFm_9 hBw_9 hFw_9 hBxm_9 hFxm_9
  refine (eq_MchMach ((mRun m irqs n)) ((mRun m irqs n)) _ _ _ _ _ _ _ _  _ ((OwnSl.up ho_g1 (fr_g.inl.inl.inl.mk1 (Nat.le_refl _) (by omega)) hx10).old (fr_g.inl.inl.inl.mk1 (Nat.le_refl _) (by omega))) ((OwnSl.up ho_g2 (fr_g.inl.inl.inr.mk1 (Nat.le_refl _) (by omega)) hx10).old (fr_g.inl.inl.inr.mk1 (Nat.le_refl _) (by omega))) ((OwnSl.up ho_g3 (fr_g.inl.inr.mk1 (Nat.le_refl _) (by omega)) hx10).old (fr_g.inl.inr.mk1 (Nat.le_refl _) (by omega))) ((OwnSl.up ho_g4 (fr_g.inr.mk1 (Nat.le_refl _) (by omega)) hx10).old (fr_g.inr.mk1 (Nat.le_refl _) (by omega))) ((OwnSl.up ho_w1 (fr_w.inl.inl.inl.mk1 (Nat.le_refl _) (by omega)) (Ext.trans (Ext.trans (Ext.trans (Ext.trans (Ext.trans hx5 hx6) hx7) hx8) hx9) hx10)).old (fr_w.inl.inl.inl.mk1 (Nat.le_refl _) (by omega))) ((OwnSl.up ho_w2 (fr_w.inl.inl.inr.mk1 (Nat.le_refl _) (by omega)) (Ext.trans (Ext.trans (Ext.trans (Ext.trans (Ext.trans hx5 hx6) hx7) hx8) hx9) hx10)).old (fr_w.inl.inl.inr.mk1 (Nat.le_refl _) (by omega))) ((OwnSl.up ho_w3 (fr_w.inl.inr.mk1 (Nat.le_refl _) (by omega)) (Ext.trans (Ext.trans (Ext.trans (Ext.trans (Ext.trans hx5 hx6) hx7) hx8) hx9) hx10)).old (fr_w.inl.inr.mk1 (Nat.le_refl _) (by omega))) ((OwnSl.up ho_w4 (fr_w.inr.mk1 (Nat.le_refl _) (by omega)) (Ext.trans (Ext.trans (Ext.trans (Ext.trans (Ext.trans hx5 hx6) hx7) hx8) hx9) hx10)).old (fr_w.inr.mk1 (Nat.le_refl _) (by omega)))).mono ?_
  rintro e w11 ⟨rfl, hy⟩
  have hx11 : Ext w10 w11 := Ext.trans (Ext.auto) hy
  have hs11 := hx11.size
  have he11 : Ext w w11 := he10.trans hx11
  have hBm_11 : Bx w11 (w.heap.size) [(.slice Am1 m.regs.length cm1), .int .i64 m.pc, (.slice Am2 m.mem.length cm2), .int .i64 m.save, .bool m.lets, .bool m.waits, .int .i64 m.halt, (.slice Am3 m.ins.length cm3), (.slice Am4 m.outs.length cm4), .int .i64 m.count] := hx11.bx hBm_10 (by omega)
  have hFm_11 : ∀ oo, w11.frozen? ⟨w.heap.size, oo, none⟩ = false := fun oo => (hx11.frozen (by omega)).trans (hFm_10 oo)
  have hBw_11 : Bx w11 (w4.heap.size) [(.slice A_w1 ((mRun m irqs n).regs).length c_w1), .int .i64 ((mRun m irqs n).pc), (.slice A_w2 ((mRun m irqs n).mem).length c_w2), .int .i64 ((mRun m irqs n).save), .bool (mRun m irqs n).lets, .bool (mRun m irqs n).waits, .int .i64 ((mRun m irqs n).halt), (.slice A_w3 ((mRun m irqs n).ins).length c_w3), (.slice A_w4 ((mRun m irqs n).outs).length c_w4), .int .i64 ((mRun m irqs n).count)] := hx11.bx hBw_10 (by omega)
  have hFw_11 : ∀ oo, w11.frozen? ⟨w4.heap.size, oo, none⟩ = false := fun oo => (hx11.frozen (by omega)).trans (hFw_10 oo)
  have hBxm_11 : Bx w11 (w6.heap.size) [(.slice A_xm1 (m.regs).length c_xm1), .int .i64 m.pc, (.slice A_xm2 (m.mem).length c_xm2), .int .i64 m.save, .bool m.lets, .bool m.waits, .int .i64 m.halt, (.slice A_xm3 (m.ins).length c_xm3), (.slice A_xm4 (m.outs).length c_xm4), .int .i64 m.count] := hx11.bx hBxm_10 (by omega)
  have hFxm_11 : ∀ oo, w11.frozen? ⟨w6.heap.size, oo, none⟩ = false := fun oo => (hx11.frozen (by omega)).trans (hFxm_10 oo)
  have hBg_11 : Bx w11 (w9.heap.size) [(.slice A_g1 ((mRun m irqs n).regs).length c_g1), .int .i64 ((mRun m irqs n).pc), (.slice A_g2 ((mRun m irqs n).mem).length c_g2), .int .i64 ((mRun m irqs n).save), .bool (mRun m irqs n).lets, .bool (mRun m irqs n).waits, .int .i64 ((mRun m irqs n).halt), (.slice A_g3 ((mRun m irqs n).ins).length c_g3), (.slice A_g4 ((mRun m irqs n).outs).length c_g4), .int .i64 ((mRun m irqs n).count)] := hx11.bx hBg_10 (by omega)
  have hFg_11 : ∀ oo, w11.frozen? ⟨w9.heap.size, oo, none⟩ = false := fun oo => (hx11.frozen (by omega)).trans (hFg_10 oo)
  clear hBm_10 hFm_10 hBw_10 hFw_10 hBxm_10 hFxm_10 hBg_10 hFg_10
  clear hy
  go_wp2_with fail
  have yxm : w6.heap.size < w11.heap.size := by omega
  have xxm0 := hBxm_11 0 _ rfl
  have xxm1 := hBxm_11 1 _ rfl
  have xxm2 := hBxm_11 2 _ rfl
  have xxm3 := hBxm_11 3 _ rfl
  have xxm4 := hBxm_11 4 _ rfl
  have xxm5 := hBxm_11 5 _ rfl
  have xxm6 := hBxm_11 6 _ rfl
  have xxm7 := hBxm_11 7 _ rfl
  have xxm8 := hBxm_11 8 _ rfl
  have xxm9 := hBxm_11 9 _ rfl
  have ym : w.heap.size < w11.heap.size := by omega
  have xm0 := hBm_11 0 _ rfl
  have xm1 := hBm_11 1 _ rfl
  have xm2 := hBm_11 2 _ rfl
  have xm3 := hBm_11 3 _ rfl
  have xm4 := hBm_11 4 _ rfl
  have xm5 := hBm_11 5 _ rfl
  have xm6 := hBm_11 6 _ rfl
  have xm7 := hBm_11 7 _ rfl
  have xm8 := hBm_11 8 _ rfl
  have xm9 := hBm_11 9 _ rfl
  have hS : ∀ w', Ext w11 w' → ∀ bb oo, bb < w11.heap.size → w'.cell? ⟨bb, oo, none⟩ = w11.cell? ⟨bb, oo, none⟩ := fun w' hx bb oo hb => hx.cell hb
  refine wp_region_plan (fun w' => Ext w11 w') 3 (.float 0 (.float 1 (.chain 2 (.tail 3)))) (by kernel_rfl) (by kernel_rfl) (Ext.refl _).drew ?_
  iterate 2 ((refine Plan.float_step (v := ?_) rfl (by rfl) (fun _ _ _ h => h) (fun w' hSw => ?_) ?_; rotate_left; · (go_simp; try with_reducible rfl)); (try simp only [Act.put, List.setIfInBounds_toArray, List.set_cons_zero, List.set_cons_succ]))
  refine Plan.chain_step rfl (fun K hK => ?_)
  go_simp
  refine (to_MchMach m _ _ _ _ _ (hm1.ext (Ext.trans he11 (Ext.auto))) (hm2.ext (Ext.trans he11 (Ext.auto))) (hm3.ext (Ext.trans he11 (Ext.auto))) (hm4.ext (Ext.trans he11 (Ext.auto))) nm).mono ?_
  rintro e w12 ⟨r_ym1, r_ym2, r_ym3, r_ym4, F_ym1, F_ym2, F_ym3, F_ym4, rfl, ho_ym1, ho_ym2, ho_ym3, ho_ym4, hf_ym, hy⟩
  refine hK.out _ _ (Ext.trans (Ext.auto) hy) ?_
  clear hK
  (try simp only [Act.put, List.setIfInBounds_toArray, List.set_cons_zero, List.set_cons_succ])
  have hx12 : Ext w11 w12 := Ext.trans (Ext.auto) hy
  have hs12 := hx12.size
  have he12 : Ext w w12 := he11.trans hx12
  have hBm_12 : Bx w12 (w.heap.size) [(.slice Am1 m.regs.length cm1), .int .i64 m.pc, (.slice Am2 m.mem.length cm2), .int .i64 m.save, .bool m.lets, .bool m.waits, .int .i64 m.halt, (.slice Am3 m.ins.length cm3), (.slice Am4 m.outs.length cm4), .int .i64 m.count] := hx12.bx hBm_11 (by omega)
  have hFm_12 : ∀ oo, w12.frozen? ⟨w.heap.size, oo, none⟩ = false := fun oo => (hx12.frozen (by omega)).trans (hFm_11 oo)
  have hBw_12 : Bx w12 (w4.heap.size) [(.slice A_w1 ((mRun m irqs n).regs).length c_w1), .int .i64 ((mRun m irqs n).pc), (.slice A_w2 ((mRun m irqs n).mem).length c_w2), .int .i64 ((mRun m irqs n).save), .bool (mRun m irqs n).lets, .bool (mRun m irqs n).waits, .int .i64 ((mRun m irqs n).halt), (.slice A_w3 ((mRun m irqs n).ins).length c_w3), (.slice A_w4 ((mRun m irqs n).outs).length c_w4), .int .i64 ((mRun m irqs n).count)] := hx12.bx hBw_11 (by omega)
  have hFw_12 : ∀ oo, w12.frozen? ⟨w4.heap.size, oo, none⟩ = false := fun oo => (hx12.frozen (by omega)).trans (hFw_11 oo)
  have hBxm_12 : Bx w12 (w6.heap.size) [(.slice A_xm1 (m.regs).length c_xm1), .int .i64 m.pc, (.slice A_xm2 (m.mem).length c_xm2), .int .i64 m.save, .bool m.lets, .bool m.waits, .int .i64 m.halt, (.slice A_xm3 (m.ins).length c_xm3), (.slice A_xm4 (m.outs).length c_xm4), .int .i64 m.count] := hx12.bx hBxm_11 (by omega)
  have hFxm_12 : ∀ oo, w12.frozen? ⟨w6.heap.size, oo, none⟩ = false := fun oo => (hx12.frozen (by omega)).trans (hFxm_11 oo)
  have hBg_12 : Bx w12 (w9.heap.size) [(.slice A_g1 ((mRun m irqs n).regs).length c_g1), .int .i64 ((mRun m irqs n).pc), (.slice A_g2 ((mRun m irqs n).mem).length c_g2), .int .i64 ((mRun m irqs n).save), .bool (mRun m irqs n).lets, .bool (mRun m irqs n).waits, .int .i64 ((mRun m irqs n).halt), (.slice A_g3 ((mRun m irqs n).ins).length c_g3), (.slice A_g4 ((mRun m irqs n).outs).length c_g4), .int .i64 ((mRun m irqs n).count)] := hx12.bx hBg_11 (by omega)
  have hFg_12 : ∀ oo, w12.frozen? ⟨w9.heap.size, oo, none⟩ = false := fun oo => (hx12.frozen (by omega)).trans (hFg_11 oo)
  clear hBm_11 hFm_11 hBw_11 hFw_11 hBxm_11 hFxm_11 hBg_11 hFg_11
  clear hy
  obtain ⟨A_ym1, c_ym1, rfl, -, -⟩ := ho_ym1.sl.form
  obtain ⟨A_ym2, c_ym2, rfl, -, -⟩ := ho_ym2.sl.form
  obtain ⟨A_ym3, c_ym3, rfl, -, -⟩ := ho_ym3.sl.form
  obtain ⟨A_ym4, c_ym4, rfl, -, -⟩ := ho_ym4.sl.form
  have fr_ym : Fr w11 w12 (F_ym1 ++ F_ym2 ++ F_ym3 ++ F_ym4) := hf_ym.mk1 (by first | exact Nat.le_refl _ | (simp; done)) (Nat.le_refl _)
  clear hf_ym
  refine Plan.tail_step ?_
  simp only [List.drop_succ_cons, List.drop_zero]
  clear hS
  clear xxm0 xxm1 xxm2 xxm3 xxm4 xxm5 xxm6 xxm7 xxm8 xxm9 yxm
  clear xm0 xm1 xm2 xm3 xm4 xm5 xm6 xm7 xm8 xm9 ym
  go_wp2_with fail
  refine (eq_MchMach m m _ _ _ _ _ _ _ _  _ ((OwnSl.up ho_xm1 (fr_xm.inl.inl.inl.mk1 (Nat.le_refl _) (by omega)) (Ext.trans (Ext.trans (Ext.trans (Ext.trans (Ext.trans hx7 hx8) hx9) hx10) hx11) hx12)).old (fr_xm.inl.inl.inl.mk1 (Nat.le_refl _) (by omega))) ((OwnSl.up ho_xm2 (fr_xm.inl.inl.inr.mk1 (Nat.le_refl _) (by omega)) (Ext.trans (Ext.trans (Ext.trans (Ext.trans (Ext.trans hx7 hx8) hx9) hx10) hx11) hx12)).old (fr_xm.inl.inl.inr.mk1 (Nat.le_refl _) (by omega))) ((OwnSl.up ho_xm3 (fr_xm.inl.inr.mk1 (Nat.le_refl _) (by omega)) (Ext.trans (Ext.trans (Ext.trans (Ext.trans (Ext.trans hx7 hx8) hx9) hx10) hx11) hx12)).old (fr_xm.inl.inr.mk1 (Nat.le_refl _) (by omega))) ((OwnSl.up ho_xm4 (fr_xm.inr.mk1 (Nat.le_refl _) (by omega)) (Ext.trans (Ext.trans (Ext.trans (Ext.trans (Ext.trans hx7 hx8) hx9) hx10) hx11) hx12)).old (fr_xm.inr.mk1 (Nat.le_refl _) (by omega))) ((OwnSl.up ho_ym1 (fr_ym.inl.inl.inl.mk1 (Nat.le_refl _) (by omega)) (Ext.refl _)).old (fr_ym.inl.inl.inl.mk1 (Nat.le_refl _) (by omega))) ((OwnSl.up ho_ym2 (fr_ym.inl.inl.inr.mk1 (Nat.le_refl _) (by omega)) (Ext.refl _)).old (fr_ym.inl.inl.inr.mk1 (Nat.le_refl _) (by omega))) ((OwnSl.up ho_ym3 (fr_ym.inl.inr.mk1 (Nat.le_refl _) (by omega)) (Ext.refl _)).old (fr_ym.inl.inr.mk1 (Nat.le_refl _) (by omega))) ((OwnSl.up ho_ym4 (fr_ym.inr.mk1 (Nat.le_refl _) (by omega)) (Ext.refl _)).old (fr_ym.inr.mk1 (Nat.le_refl _) (by omega)))).mono ?_
  rintro e w13 ⟨rfl, hy⟩
  have hx13 : Ext w12 w13 := Ext.trans (Ext.auto) hy
  have hs13 := hx13.size
  have he13 : Ext w w13 := he12.trans hx13
  have hBm_13 : Bx w13 (w.heap.size) [(.slice Am1 m.regs.length cm1), .int .i64 m.pc, (.slice Am2 m.mem.length cm2), .int .i64 m.save, .bool m.lets, .bool m.waits, .int .i64 m.halt, (.slice Am3 m.ins.length cm3), (.slice Am4 m.outs.length cm4), .int .i64 m.count] := hx13.bx hBm_12 (by omega)
  have hFm_13 : ∀ oo, w13.frozen? ⟨w.heap.size, oo, none⟩ = false := fun oo => (hx13.frozen (by omega)).trans (hFm_12 oo)
  have hBw_13 : Bx w13 (w4.heap.size) [(.slice A_w1 ((mRun m irqs n).regs).length c_w1), .int .i64 ((mRun m irqs n).pc), (.slice A_w2 ((mRun m irqs n).mem).length c_w2), .int .i64 ((mRun m irqs n).save), .bool (mRun m irqs n).lets, .bool (mRun m irqs n).waits, .int .i64 ((mRun m irqs n).halt), (.slice A_w3 ((mRun m irqs n).ins).length c_w3), (.slice A_w4 ((mRun m irqs n).outs).length c_w4), .int .i64 ((mRun m irqs n).count)] := hx13.bx hBw_12 (by omega)
  have hFw_13 : ∀ oo, w13.frozen? ⟨w4.heap.size, oo, none⟩ = false := fun oo => (hx13.frozen (by omega)).trans (hFw_12 oo)
  have hBxm_13 : Bx w13 (w6.heap.size) [(.slice A_xm1 (m.regs).length c_xm1), .int .i64 m.pc, (.slice A_xm2 (m.mem).length c_xm2), .int .i64 m.save, .bool m.lets, .bool m.waits, .int .i64 m.halt, (.slice A_xm3 (m.ins).length c_xm3), (.slice A_xm4 (m.outs).length c_xm4), .int .i64 m.count] := hx13.bx hBxm_12 (by omega)
  have hFxm_13 : ∀ oo, w13.frozen? ⟨w6.heap.size, oo, none⟩ = false := fun oo => (hx13.frozen (by omega)).trans (hFxm_12 oo)
  have hBg_13 : Bx w13 (w9.heap.size) [(.slice A_g1 ((mRun m irqs n).regs).length c_g1), .int .i64 ((mRun m irqs n).pc), (.slice A_g2 ((mRun m irqs n).mem).length c_g2), .int .i64 ((mRun m irqs n).save), .bool (mRun m irqs n).lets, .bool (mRun m irqs n).waits, .int .i64 ((mRun m irqs n).halt), (.slice A_g3 ((mRun m irqs n).ins).length c_g3), (.slice A_g4 ((mRun m irqs n).outs).length c_g4), .int .i64 ((mRun m irqs n).count)] := hx13.bx hBg_12 (by omega)
  have hFg_13 : ∀ oo, w13.frozen? ⟨w9.heap.size, oo, none⟩ = false := fun oo => (hx13.frozen (by omega)).trans (hFg_12 oo)
  clear hBm_12 hFm_12 hBw_12 hFw_12 hBxm_12 hFxm_12 hBg_12 hFg_12
  clear hy
  clear ho_ym1 ho_ym2 ho_ym3 ho_ym4 fr_ym
  go_wp2_with fail
  refine (to_ListInt irqs _ _ (hirqs.ext (Ext.trans he13 (Ext.auto))) nirqs).mono ?_
  rintro e w14 ⟨r_yirqs1, F_yirqs1, rfl, ho_yirqs1, hf_yirqs, hy⟩
  have hx14 : Ext w13 w14 := Ext.trans (Ext.auto) hy
  have hs14 := hx14.size
  have he14 : Ext w w14 := he13.trans hx14
  have hBm_14 : Bx w14 (w.heap.size) [(.slice Am1 m.regs.length cm1), .int .i64 m.pc, (.slice Am2 m.mem.length cm2), .int .i64 m.save, .bool m.lets, .bool m.waits, .int .i64 m.halt, (.slice Am3 m.ins.length cm3), (.slice Am4 m.outs.length cm4), .int .i64 m.count] := hx14.bx hBm_13 (by omega)
  have hFm_14 : ∀ oo, w14.frozen? ⟨w.heap.size, oo, none⟩ = false := fun oo => (hx14.frozen (by omega)).trans (hFm_13 oo)
  have hBw_14 : Bx w14 (w4.heap.size) [(.slice A_w1 ((mRun m irqs n).regs).length c_w1), .int .i64 ((mRun m irqs n).pc), (.slice A_w2 ((mRun m irqs n).mem).length c_w2), .int .i64 ((mRun m irqs n).save), .bool (mRun m irqs n).lets, .bool (mRun m irqs n).waits, .int .i64 ((mRun m irqs n).halt), (.slice A_w3 ((mRun m irqs n).ins).length c_w3), (.slice A_w4 ((mRun m irqs n).outs).length c_w4), .int .i64 ((mRun m irqs n).count)] := hx14.bx hBw_13 (by omega)
  have hFw_14 : ∀ oo, w14.frozen? ⟨w4.heap.size, oo, none⟩ = false := fun oo => (hx14.frozen (by omega)).trans (hFw_13 oo)
  have hBxm_14 : Bx w14 (w6.heap.size) [(.slice A_xm1 (m.regs).length c_xm1), .int .i64 m.pc, (.slice A_xm2 (m.mem).length c_xm2), .int .i64 m.save, .bool m.lets, .bool m.waits, .int .i64 m.halt, (.slice A_xm3 (m.ins).length c_xm3), (.slice A_xm4 (m.outs).length c_xm4), .int .i64 m.count] := hx14.bx hBxm_13 (by omega)
  have hFxm_14 : ∀ oo, w14.frozen? ⟨w6.heap.size, oo, none⟩ = false := fun oo => (hx14.frozen (by omega)).trans (hFxm_13 oo)
  have hBg_14 : Bx w14 (w9.heap.size) [(.slice A_g1 ((mRun m irqs n).regs).length c_g1), .int .i64 ((mRun m irqs n).pc), (.slice A_g2 ((mRun m irqs n).mem).length c_g2), .int .i64 ((mRun m irqs n).save), .bool (mRun m irqs n).lets, .bool (mRun m irqs n).waits, .int .i64 ((mRun m irqs n).halt), (.slice A_g3 ((mRun m irqs n).ins).length c_g3), (.slice A_g4 ((mRun m irqs n).outs).length c_g4), .int .i64 ((mRun m irqs n).count)] := hx14.bx hBg_13 (by omega)
  have hFg_14 : ∀ oo, w14.frozen? ⟨w9.heap.size, oo, none⟩ = false := fun oo => (hx14.frozen (by omega)).trans (hFg_13 oo)
  clear hBm_13 hFm_13 hBw_13 hFw_13 hBxm_13 hFxm_13 hBg_13 hFg_13
  clear hy
  obtain ⟨A_yirqs1, c_yirqs1, rfl, -, -⟩ := ho_yirqs1.sl.form
  have fr_yirqs : Fr w13 w14 (F_yirqs1) := hf_yirqs.mk1 (by first | exact Nat.le_refl _ | (simp; done)) (Nat.le_refl _)
  clear hf_yirqs
  go_wp2_with fail
  refine (eq_ListInt irqs irqs _ _  _ ((OwnSl.up ho_xirqs1 (fr_xirqs.mk1 (Nat.le_refl _) (by omega)) (Ext.trans (Ext.trans (Ext.trans (Ext.trans (Ext.trans hx9 hx10) hx11) hx12) hx13) hx14)).old (fr_xirqs.mk1 (Nat.le_refl _) (by omega))) ((OwnSl.up ho_yirqs1 (fr_yirqs.mk1 (Nat.le_refl _) (by omega)) (Ext.refl _)).old (fr_yirqs.mk1 (Nat.le_refl _) (by omega)))).mono ?_
  rintro e w15 ⟨rfl, hy⟩
  have hx15 : Ext w14 w15 := Ext.trans (Ext.auto) hy
  have hs15 := hx15.size
  have he15 : Ext w w15 := he14.trans hx15
  have hBm_15 : Bx w15 (w.heap.size) [(.slice Am1 m.regs.length cm1), .int .i64 m.pc, (.slice Am2 m.mem.length cm2), .int .i64 m.save, .bool m.lets, .bool m.waits, .int .i64 m.halt, (.slice Am3 m.ins.length cm3), (.slice Am4 m.outs.length cm4), .int .i64 m.count] := hx15.bx hBm_14 (by omega)
  have hFm_15 : ∀ oo, w15.frozen? ⟨w.heap.size, oo, none⟩ = false := fun oo => (hx15.frozen (by omega)).trans (hFm_14 oo)
  have hBw_15 : Bx w15 (w4.heap.size) [(.slice A_w1 ((mRun m irqs n).regs).length c_w1), .int .i64 ((mRun m irqs n).pc), (.slice A_w2 ((mRun m irqs n).mem).length c_w2), .int .i64 ((mRun m irqs n).save), .bool (mRun m irqs n).lets, .bool (mRun m irqs n).waits, .int .i64 ((mRun m irqs n).halt), (.slice A_w3 ((mRun m irqs n).ins).length c_w3), (.slice A_w4 ((mRun m irqs n).outs).length c_w4), .int .i64 ((mRun m irqs n).count)] := hx15.bx hBw_14 (by omega)
  have hFw_15 : ∀ oo, w15.frozen? ⟨w4.heap.size, oo, none⟩ = false := fun oo => (hx15.frozen (by omega)).trans (hFw_14 oo)
  have hBxm_15 : Bx w15 (w6.heap.size) [(.slice A_xm1 (m.regs).length c_xm1), .int .i64 m.pc, (.slice A_xm2 (m.mem).length c_xm2), .int .i64 m.save, .bool m.lets, .bool m.waits, .int .i64 m.halt, (.slice A_xm3 (m.ins).length c_xm3), (.slice A_xm4 (m.outs).length c_xm4), .int .i64 m.count] := hx15.bx hBxm_14 (by omega)
  have hFxm_15 : ∀ oo, w15.frozen? ⟨w6.heap.size, oo, none⟩ = false := fun oo => (hx15.frozen (by omega)).trans (hFxm_14 oo)
  have hBg_15 : Bx w15 (w9.heap.size) [(.slice A_g1 ((mRun m irqs n).regs).length c_g1), .int .i64 ((mRun m irqs n).pc), (.slice A_g2 ((mRun m irqs n).mem).length c_g2), .int .i64 ((mRun m irqs n).save), .bool (mRun m irqs n).lets, .bool (mRun m irqs n).waits, .int .i64 ((mRun m irqs n).halt), (.slice A_g3 ((mRun m irqs n).ins).length c_g3), (.slice A_g4 ((mRun m irqs n).outs).length c_g4), .int .i64 ((mRun m irqs n).count)] := hx15.bx hBg_14 (by omega)
  have hFg_15 : ∀ oo, w15.frozen? ⟨w9.heap.size, oo, none⟩ = false := fun oo => (hx15.frozen (by omega)).trans (hFg_14 oo)
  clear hBm_14 hFm_14 hBw_14 hFw_14 hBxm_14 hFxm_14 hBg_14 hFg_14
  clear hy
  clear ho_yirqs1 fr_yirqs
  clear ho_pm1 ho_pm2 ho_pm3 ho_pm4 fr_pm
  clear ho_pirqs1 fr_pirqs
  have hct_xm := MchMach.ctV_le (m)
  have yxm : w6.heap.size < w15.heap.size := by omega
  have xxm0 := hBxm_15 0 _ rfl
  have xxm1 := hBxm_15 1 _ rfl
  have xxm2 := hBxm_15 2 _ rfl
  have xxm3 := hBxm_15 3 _ rfl
  have xxm4 := hBxm_15 4 _ rfl
  have xxm5 := hBxm_15 5 _ rfl
  have xxm6 := hBxm_15 6 _ rfl
  have xxm7 := hBxm_15 7 _ rfl
  have xxm8 := hBxm_15 8 _ rfl
  have xxm9 := hBxm_15 9 _ rfl
  go_wp2_with fail
  clear xxm0 xxm1 xxm2 xxm3 xxm4 xxm5 xxm6 xxm7 xxm8 xxm9 yxm
  refine (mark_MchMach (m) _ _ _ _ _ _ _ _ (1) _ (OwnSl.up ho_xm1 (fr_xm.inl.inl.inl.mk1 (Nat.le_refl _) (by omega)) (Ext.trans (Ext.trans (Ext.trans (Ext.trans (Ext.trans (Ext.trans (Ext.trans (Ext.trans hx7 hx8) hx9) hx10) hx11) hx12) hx13) hx14) hx15)) (OwnSl.up ho_xm2 (fr_xm.inl.inl.inr.mk1 (Nat.le_refl _) (by omega)) (Ext.trans (Ext.trans (Ext.trans (Ext.trans (Ext.trans (Ext.trans (Ext.trans (Ext.trans hx7 hx8) hx9) hx10) hx11) hx12) hx13) hx14) hx15)) (OwnSl.up ho_xm3 (fr_xm.inl.inr.mk1 (Nat.le_refl _) (by omega)) (Ext.trans (Ext.trans (Ext.trans (Ext.trans (Ext.trans (Ext.trans (Ext.trans (Ext.trans hx7 hx8) hx9) hx10) hx11) hx12) hx13) hx14) hx15)) (OwnSl.up ho_xm4 (fr_xm.inr.mk1 (Nat.le_refl _) (by omega)) (Ext.trans (Ext.trans (Ext.trans (Ext.trans (Ext.trans (Ext.trans (Ext.trans (Ext.trans hx7 hx8) hx9) hx10) hx11) hx12) hx13) hx14) hx15)) fr_xm.1 (fun x hx => by have := (fr_xm.2 x hx).2; omega) (by omega) (by omega)).mono ?_
  rintro e w16 ⟨rfl, hm_xm1, hm_xm2, hm_xm3, hm_xm4, hy⟩
  have hc16 : Chg (F_xm1 ++ F_xm2 ++ F_xm3 ++ F_xm4) w15 w16 := hy
  have hs16 := hc16.size
  have he16 : Ext w w16 := Chg.ext he15 hc16 (fun x hx => by have := (fr_xm.2 x hx).1; omega)
  have hBm_16 : Bx w16 (w.heap.size) [(.slice Am1 m.regs.length cm1), .int .i64 m.pc, (.slice Am2 m.mem.length cm2), .int .i64 m.save, .bool m.lets, .bool m.waits, .int .i64 m.halt, (.slice Am3 m.ins.length cm3), (.slice Am4 m.outs.length cm4), .int .i64 m.count] := fun j u hu => (hc16.cell (by omega) (by intro hm; have := (fr_xm.2 _ hm); have h1 := this.1; have h2 := this.2; omega)).trans (hBm_15 j u hu)
  have hFm_16 : ∀ oo, w16.frozen? ⟨w.heap.size, oo, none⟩ = false := fun oo => (hc16.frozen _ _ (by omega)).trans (hFm_15 oo)
  have hBw_16 : Bx w16 (w4.heap.size) [(.slice A_w1 ((mRun m irqs n).regs).length c_w1), .int .i64 ((mRun m irqs n).pc), (.slice A_w2 ((mRun m irqs n).mem).length c_w2), .int .i64 ((mRun m irqs n).save), .bool (mRun m irqs n).lets, .bool (mRun m irqs n).waits, .int .i64 ((mRun m irqs n).halt), (.slice A_w3 ((mRun m irqs n).ins).length c_w3), (.slice A_w4 ((mRun m irqs n).outs).length c_w4), .int .i64 ((mRun m irqs n).count)] := fun j u hu => (hc16.cell (by omega) (by intro hm; have := (fr_xm.2 _ hm); have h1 := this.1; have h2 := this.2; omega)).trans (hBw_15 j u hu)
  have hFw_16 : ∀ oo, w16.frozen? ⟨w4.heap.size, oo, none⟩ = false := fun oo => (hc16.frozen _ _ (by omega)).trans (hFw_15 oo)
  have hBxm_16 : Bx w16 (w6.heap.size) [(.slice A_xm1 (m.regs).length c_xm1), .int .i64 m.pc, (.slice A_xm2 (m.mem).length c_xm2), .int .i64 m.save, .bool m.lets, .bool m.waits, .int .i64 m.halt, (.slice A_xm3 (m.ins).length c_xm3), (.slice A_xm4 (m.outs).length c_xm4), .int .i64 m.count] := fun j u hu => (hc16.cell (by omega) (by intro hm; have := (fr_xm.2 _ hm); have h1 := this.1; have h2 := this.2; omega)).trans (hBxm_15 j u hu)
  have hFxm_16 : ∀ oo, w16.frozen? ⟨w6.heap.size, oo, none⟩ = false := fun oo => (hc16.frozen _ _ (by omega)).trans (hFxm_15 oo)
  have hBg_16 : Bx w16 (w9.heap.size) [(.slice A_g1 ((mRun m irqs n).regs).length c_g1), .int .i64 ((mRun m irqs n).pc), (.slice A_g2 ((mRun m irqs n).mem).length c_g2), .int .i64 ((mRun m irqs n).save), .bool (mRun m irqs n).lets, .bool (mRun m irqs n).waits, .int .i64 ((mRun m irqs n).halt), (.slice A_g3 ((mRun m irqs n).ins).length c_g3), (.slice A_g4 ((mRun m irqs n).outs).length c_g4), .int .i64 ((mRun m irqs n).count)] := fun j u hu => (hc16.cell (by omega) (by intro hm; have := (fr_xm.2 _ hm); have h1 := this.1; have h2 := this.2; omega)).trans (hBg_15 j u hu)
  have hFg_16 : ∀ oo, w16.frozen? ⟨w9.heap.size, oo, none⟩ = false := fun oo => (hc16.frozen _ _ (by omega)).trans (hFg_15 oo)
  clear hBm_15 hFm_15 hBw_15 hFw_15 hBxm_15 hFxm_15 hBg_15 hFg_15
  have ho_w1' := (OwnSl.up ho_w1 (fr_w.inl.inl.inl.mk1 (Nat.le_refl _) (by omega)) (Ext.trans (Ext.trans (Ext.trans (Ext.trans (Ext.trans (Ext.trans (Ext.trans (Ext.trans (Ext.trans (Ext.trans hx5 hx6) hx7) hx8) hx9) hx10) hx11) hx12) hx13) hx14) hx15)).past fr_w.inl.inl.inl (by omega) hc16 (fun x hx => (fr_w.apart fr_xm (by omega)) x (by simp [hx]))
  clear ho_w1
  have ho_w1 := ho_w1'
  clear ho_w1'
  have ho_w2' := (OwnSl.up ho_w2 (fr_w.inl.inl.inr.mk1 (Nat.le_refl _) (by omega)) (Ext.trans (Ext.trans (Ext.trans (Ext.trans (Ext.trans (Ext.trans (Ext.trans (Ext.trans (Ext.trans (Ext.trans hx5 hx6) hx7) hx8) hx9) hx10) hx11) hx12) hx13) hx14) hx15)).past fr_w.inl.inl.inr (by omega) hc16 (fun x hx => (fr_w.apart fr_xm (by omega)) x (by simp [hx]))
  clear ho_w2
  have ho_w2 := ho_w2'
  clear ho_w2'
  have ho_w3' := (OwnSl.up ho_w3 (fr_w.inl.inr.mk1 (Nat.le_refl _) (by omega)) (Ext.trans (Ext.trans (Ext.trans (Ext.trans (Ext.trans (Ext.trans (Ext.trans (Ext.trans (Ext.trans (Ext.trans hx5 hx6) hx7) hx8) hx9) hx10) hx11) hx12) hx13) hx14) hx15)).past fr_w.inl.inr (by omega) hc16 (fun x hx => (fr_w.apart fr_xm (by omega)) x (by simp [hx]))
  clear ho_w3
  have ho_w3 := ho_w3'
  clear ho_w3'
  have ho_w4' := (OwnSl.up ho_w4 (fr_w.inr.mk1 (Nat.le_refl _) (by omega)) (Ext.trans (Ext.trans (Ext.trans (Ext.trans (Ext.trans (Ext.trans (Ext.trans (Ext.trans (Ext.trans (Ext.trans hx5 hx6) hx7) hx8) hx9) hx10) hx11) hx12) hx13) hx14) hx15)).past fr_w.inr (by omega) hc16 (fun x hx => (fr_w.apart fr_xm (by omega)) x (by simp [hx]))
  clear ho_w4
  have ho_w4 := ho_w4'
  clear ho_w4'
  have ho_xirqs1' := (OwnSl.up ho_xirqs1 (fr_xirqs.mk1 (Nat.le_refl _) (by omega)) (Ext.trans (Ext.trans (Ext.trans (Ext.trans (Ext.trans (Ext.trans hx9 hx10) hx11) hx12) hx13) hx14) hx15)).past fr_xirqs (by omega) hc16 (fun x hx => (fr_xirqs.apart' fr_xm (by omega)) x (by simp [hx]))
  clear ho_xirqs1
  have ho_xirqs1 := ho_xirqs1'
  clear ho_xirqs1'
  have ho_g1' := (OwnSl.up ho_g1 (fr_g.inl.inl.inl.mk1 (Nat.le_refl _) (by omega)) (Ext.trans (Ext.trans (Ext.trans (Ext.trans (Ext.trans hx10 hx11) hx12) hx13) hx14) hx15)).past fr_g.inl.inl.inl (by omega) hc16 (fun x hx => (fr_g.apart' fr_xm (by omega)) x (by simp [hx]))
  clear ho_g1
  have ho_g1 := ho_g1'
  clear ho_g1'
  have ho_g2' := (OwnSl.up ho_g2 (fr_g.inl.inl.inr.mk1 (Nat.le_refl _) (by omega)) (Ext.trans (Ext.trans (Ext.trans (Ext.trans (Ext.trans hx10 hx11) hx12) hx13) hx14) hx15)).past fr_g.inl.inl.inr (by omega) hc16 (fun x hx => (fr_g.apart' fr_xm (by omega)) x (by simp [hx]))
  clear ho_g2
  have ho_g2 := ho_g2'
  clear ho_g2'
  have ho_g3' := (OwnSl.up ho_g3 (fr_g.inl.inr.mk1 (Nat.le_refl _) (by omega)) (Ext.trans (Ext.trans (Ext.trans (Ext.trans (Ext.trans hx10 hx11) hx12) hx13) hx14) hx15)).past fr_g.inl.inr (by omega) hc16 (fun x hx => (fr_g.apart' fr_xm (by omega)) x (by simp [hx]))
  clear ho_g3
  have ho_g3 := ho_g3'
  clear ho_g3'
  have ho_g4' := (OwnSl.up ho_g4 (fr_g.inr.mk1 (Nat.le_refl _) (by omega)) (Ext.trans (Ext.trans (Ext.trans (Ext.trans (Ext.trans hx10 hx11) hx12) hx13) hx14) hx15)).past fr_g.inr (by omega) hc16 (fun x hx => (fr_g.apart' fr_xm (by omega)) x (by simp [hx]))
  clear ho_g4
  have ho_g4 := ho_g4'
  clear ho_g4'
  clear hy
  have hct_xirqs := ct_le (irqs)
  go_wp2_with fail
  refine (mark_ListInt (irqs) _ _ (1 + ((MchMach.ctV (m) : Nat) : Int)) _ (OwnSl.up ho_xirqs1 (fr_xirqs.mk1 (Nat.le_refl _) (by omega)) (Ext.refl _)) fr_xirqs.1 (fun x hx => by have := (fr_xirqs.2 x hx).2; omega) (by omega) (by omega)).mono ?_
  rintro e w17 ⟨rfl, hm_xirqs1, hy⟩
  have hc17 : Chg F_xirqs1 w16 w17 := hy
  have hs17 := hc17.size
  have he17 : Ext w w17 := Chg.ext he16 hc17 (fun x hx => by have := (fr_xirqs.2 x hx).1; omega)
  have hBm_17 : Bx w17 (w.heap.size) [(.slice Am1 m.regs.length cm1), .int .i64 m.pc, (.slice Am2 m.mem.length cm2), .int .i64 m.save, .bool m.lets, .bool m.waits, .int .i64 m.halt, (.slice Am3 m.ins.length cm3), (.slice Am4 m.outs.length cm4), .int .i64 m.count] := fun j u hu => (hc17.cell (by omega) (by intro hm; have := (fr_xirqs.2 _ hm); have h1 := this.1; have h2 := this.2; omega)).trans (hBm_16 j u hu)
  have hFm_17 : ∀ oo, w17.frozen? ⟨w.heap.size, oo, none⟩ = false := fun oo => (hc17.frozen _ _ (by omega)).trans (hFm_16 oo)
  have hBw_17 : Bx w17 (w4.heap.size) [(.slice A_w1 ((mRun m irqs n).regs).length c_w1), .int .i64 ((mRun m irqs n).pc), (.slice A_w2 ((mRun m irqs n).mem).length c_w2), .int .i64 ((mRun m irqs n).save), .bool (mRun m irqs n).lets, .bool (mRun m irqs n).waits, .int .i64 ((mRun m irqs n).halt), (.slice A_w3 ((mRun m irqs n).ins).length c_w3), (.slice A_w4 ((mRun m irqs n).outs).length c_w4), .int .i64 ((mRun m irqs n).count)] := fun j u hu => (hc17.cell (by omega) (by intro hm; have := (fr_xirqs.2 _ hm); have h1 := this.1; have h2 := this.2; omega)).trans (hBw_16 j u hu)
  have hFw_17 : ∀ oo, w17.frozen? ⟨w4.heap.size, oo, none⟩ = false := fun oo => (hc17.frozen _ _ (by omega)).trans (hFw_16 oo)
  have hBxm_17 : Bx w17 (w6.heap.size) [(.slice A_xm1 (m.regs).length c_xm1), .int .i64 m.pc, (.slice A_xm2 (m.mem).length c_xm2), .int .i64 m.save, .bool m.lets, .bool m.waits, .int .i64 m.halt, (.slice A_xm3 (m.ins).length c_xm3), (.slice A_xm4 (m.outs).length c_xm4), .int .i64 m.count] := fun j u hu => (hc17.cell (by omega) (by intro hm; have := (fr_xirqs.2 _ hm); have h1 := this.1; have h2 := this.2; omega)).trans (hBxm_16 j u hu)
  have hFxm_17 : ∀ oo, w17.frozen? ⟨w6.heap.size, oo, none⟩ = false := fun oo => (hc17.frozen _ _ (by omega)).trans (hFxm_16 oo)
  have hBg_17 : Bx w17 (w9.heap.size) [(.slice A_g1 ((mRun m irqs n).regs).length c_g1), .int .i64 ((mRun m irqs n).pc), (.slice A_g2 ((mRun m irqs n).mem).length c_g2), .int .i64 ((mRun m irqs n).save), .bool (mRun m irqs n).lets, .bool (mRun m irqs n).waits, .int .i64 ((mRun m irqs n).halt), (.slice A_g3 ((mRun m irqs n).ins).length c_g3), (.slice A_g4 ((mRun m irqs n).outs).length c_g4), .int .i64 ((mRun m irqs n).count)] := fun j u hu => (hc17.cell (by omega) (by intro hm; have := (fr_xirqs.2 _ hm); have h1 := this.1; have h2 := this.2; omega)).trans (hBg_16 j u hu)
  have hFg_17 : ∀ oo, w17.frozen? ⟨w9.heap.size, oo, none⟩ = false := fun oo => (hc17.frozen _ _ (by omega)).trans (hFg_16 oo)
  clear hBm_16 hFm_16 hBw_16 hFw_16 hBxm_16 hFxm_16 hBg_16 hFg_16
  have ho_w1' := (OwnSl.up ho_w1 (fr_w.inl.inl.inl.mk1 (Nat.le_refl _) (by omega)) (Ext.refl _)).past fr_w.inl.inl.inl (by omega) hc17 (fun x hx => (fr_w.apart fr_xirqs (by omega)) x (by simp [hx]))
  clear ho_w1
  have ho_w1 := ho_w1'
  clear ho_w1'
  have ho_w2' := (OwnSl.up ho_w2 (fr_w.inl.inl.inr.mk1 (Nat.le_refl _) (by omega)) (Ext.refl _)).past fr_w.inl.inl.inr (by omega) hc17 (fun x hx => (fr_w.apart fr_xirqs (by omega)) x (by simp [hx]))
  clear ho_w2
  have ho_w2 := ho_w2'
  clear ho_w2'
  have ho_w3' := (OwnSl.up ho_w3 (fr_w.inl.inr.mk1 (Nat.le_refl _) (by omega)) (Ext.refl _)).past fr_w.inl.inr (by omega) hc17 (fun x hx => (fr_w.apart fr_xirqs (by omega)) x (by simp [hx]))
  clear ho_w3
  have ho_w3 := ho_w3'
  clear ho_w3'
  have ho_w4' := (OwnSl.up ho_w4 (fr_w.inr.mk1 (Nat.le_refl _) (by omega)) (Ext.refl _)).past fr_w.inr (by omega) hc17 (fun x hx => (fr_w.apart fr_xirqs (by omega)) x (by simp [hx]))
  clear ho_w4
  have ho_w4 := ho_w4'
  clear ho_w4'
  have hm_xm1' := (OwnSl.up hm_xm1 (fr_xm.inl.inl.inl.mk1 (Nat.le_refl _) (by omega)) (Ext.refl _)).past fr_xm.inl.inl.inl (by omega) hc17 (fun x hx => (fr_xm.apart fr_xirqs (by omega)) x (by simp [hx]))
  clear hm_xm1
  have hm_xm1 := hm_xm1'
  clear hm_xm1'
  have hm_xm2' := (OwnSl.up hm_xm2 (fr_xm.inl.inl.inr.mk1 (Nat.le_refl _) (by omega)) (Ext.refl _)).past fr_xm.inl.inl.inr (by omega) hc17 (fun x hx => (fr_xm.apart fr_xirqs (by omega)) x (by simp [hx]))
  clear hm_xm2
  have hm_xm2 := hm_xm2'
  clear hm_xm2'
  have hm_xm3' := (OwnSl.up hm_xm3 (fr_xm.inl.inr.mk1 (Nat.le_refl _) (by omega)) (Ext.refl _)).past fr_xm.inl.inr (by omega) hc17 (fun x hx => (fr_xm.apart fr_xirqs (by omega)) x (by simp [hx]))
  clear hm_xm3
  have hm_xm3 := hm_xm3'
  clear hm_xm3'
  have hm_xm4' := (OwnSl.up hm_xm4 (fr_xm.inr.mk1 (Nat.le_refl _) (by omega)) (Ext.refl _)).past fr_xm.inr (by omega) hc17 (fun x hx => (fr_xm.apart fr_xirqs (by omega)) x (by simp [hx]))
  clear hm_xm4
  have hm_xm4 := hm_xm4'
  clear hm_xm4'
  have ho_g1' := (OwnSl.up ho_g1 (fr_g.inl.inl.inl.mk1 (Nat.le_refl _) (by omega)) (Ext.refl _)).past fr_g.inl.inl.inl (by omega) hc17 (fun x hx => (fr_g.apart' fr_xirqs (by omega)) x (by simp [hx]))
  clear ho_g1
  have ho_g1 := ho_g1'
  clear ho_g1'
  have ho_g2' := (OwnSl.up ho_g2 (fr_g.inl.inl.inr.mk1 (Nat.le_refl _) (by omega)) (Ext.refl _)).past fr_g.inl.inl.inr (by omega) hc17 (fun x hx => (fr_g.apart' fr_xirqs (by omega)) x (by simp [hx]))
  clear ho_g2
  have ho_g2 := ho_g2'
  clear ho_g2'
  have ho_g3' := (OwnSl.up ho_g3 (fr_g.inl.inr.mk1 (Nat.le_refl _) (by omega)) (Ext.refl _)).past fr_g.inl.inr (by omega) hc17 (fun x hx => (fr_g.apart' fr_xirqs (by omega)) x (by simp [hx]))
  clear ho_g3
  have ho_g3 := ho_g3'
  clear ho_g3'
  have ho_g4' := (OwnSl.up ho_g4 (fr_g.inr.mk1 (Nat.le_refl _) (by omega)) (Ext.refl _)).past fr_g.inr (by omega) hc17 (fun x hx => (fr_g.apart' fr_xirqs (by omega)) x (by simp [hx]))
  clear ho_g4
  have ho_g4 := ho_g4'
  clear ho_g4'
  clear hy
  have yg : w9.heap.size < w17.heap.size := by omega
  have xg0 := hBg_17 0 _ rfl
  have xg1 := hBg_17 1 _ rfl
  have xg2 := hBg_17 2 _ rfl
  have xg3 := hBg_17 3 _ rfl
  have xg4 := hBg_17 4 _ rfl
  have xg5 := hBg_17 5 _ rfl
  have xg6 := hBg_17 6 _ rfl
  have xg7 := hBg_17 7 _ rfl
  have xg8 := hBg_17 8 _ rfl
  have xg9 := hBg_17 9 _ rfl
  have yw : w4.heap.size < w17.heap.size := by omega
  have xw0 := hBw_17 0 _ rfl
  have xw1 := hBw_17 1 _ rfl
  have xw2 := hBw_17 2 _ rfl
  have xw3 := hBw_17 3 _ rfl
  have xw4 := hBw_17 4 _ rfl
  have xw5 := hBw_17 5 _ rfl
  have xw6 := hBw_17 6 _ rfl
  have xw7 := hBw_17 7 _ rfl
  have xw8 := hBw_17 8 _ rfl
  have xw9 := hBw_17 9 _ rfl
  go_wp2_with fail
  clear xg0 xg1 xg2 xg3 xg4 xg5 xg6 xg7 xg8 xg9 yg
  clear xw0 xw1 xw2 xw3 xw4 xw5 xw6 xw7 xw8 xw9 yw
  refine (eq_MchMach ((mRun m irqs n)) ((mRun m irqs n)) _ _ _ _ _ _ _ _  _ ((OwnSl.up ho_g1 (fr_g.inl.inl.inl.mk1 (Nat.le_refl _) (by omega)) (Ext.refl _)).old (fr_g.inl.inl.inl.mk1 (Nat.le_refl _) (by omega))) ((OwnSl.up ho_g2 (fr_g.inl.inl.inr.mk1 (Nat.le_refl _) (by omega)) (Ext.refl _)).old (fr_g.inl.inl.inr.mk1 (Nat.le_refl _) (by omega))) ((OwnSl.up ho_g3 (fr_g.inl.inr.mk1 (Nat.le_refl _) (by omega)) (Ext.refl _)).old (fr_g.inl.inr.mk1 (Nat.le_refl _) (by omega))) ((OwnSl.up ho_g4 (fr_g.inr.mk1 (Nat.le_refl _) (by omega)) (Ext.refl _)).old (fr_g.inr.mk1 (Nat.le_refl _) (by omega))) ((OwnSl.up ho_w1 (fr_w.inl.inl.inl.mk1 (Nat.le_refl _) (by omega)) (Ext.refl _)).old (fr_w.inl.inl.inl.mk1 (Nat.le_refl _) (by omega))) ((OwnSl.up ho_w2 (fr_w.inl.inl.inr.mk1 (Nat.le_refl _) (by omega)) (Ext.refl _)).old (fr_w.inl.inl.inr.mk1 (Nat.le_refl _) (by omega))) ((OwnSl.up ho_w3 (fr_w.inl.inr.mk1 (Nat.le_refl _) (by omega)) (Ext.refl _)).old (fr_w.inl.inr.mk1 (Nat.le_refl _) (by omega))) ((OwnSl.up ho_w4 (fr_w.inr.mk1 (Nat.le_refl _) (by omega)) (Ext.refl _)).old (fr_w.inr.mk1 (Nat.le_refl _) (by omega)))).mono ?_
  rintro e w18 ⟨rfl, hy⟩
  have hx18 : Ext w17 w18 := Ext.trans (Ext.auto) hy
  have hs18 := hx18.size
  have he18 : Ext w w18 := he17.trans hx18
  have hBm_18 : Bx w18 (w.heap.size) [(.slice Am1 m.regs.length cm1), .int .i64 m.pc, (.slice Am2 m.mem.length cm2), .int .i64 m.save, .bool m.lets, .bool m.waits, .int .i64 m.halt, (.slice Am3 m.ins.length cm3), (.slice Am4 m.outs.length cm4), .int .i64 m.count] := hx18.bx hBm_17 (by omega)
  have hFm_18 : ∀ oo, w18.frozen? ⟨w.heap.size, oo, none⟩ = false := fun oo => (hx18.frozen (by omega)).trans (hFm_17 oo)
  have hBw_18 : Bx w18 (w4.heap.size) [(.slice A_w1 ((mRun m irqs n).regs).length c_w1), .int .i64 ((mRun m irqs n).pc), (.slice A_w2 ((mRun m irqs n).mem).length c_w2), .int .i64 ((mRun m irqs n).save), .bool (mRun m irqs n).lets, .bool (mRun m irqs n).waits, .int .i64 ((mRun m irqs n).halt), (.slice A_w3 ((mRun m irqs n).ins).length c_w3), (.slice A_w4 ((mRun m irqs n).outs).length c_w4), .int .i64 ((mRun m irqs n).count)] := hx18.bx hBw_17 (by omega)
  have hFw_18 : ∀ oo, w18.frozen? ⟨w4.heap.size, oo, none⟩ = false := fun oo => (hx18.frozen (by omega)).trans (hFw_17 oo)
  have hBxm_18 : Bx w18 (w6.heap.size) [(.slice A_xm1 (m.regs).length c_xm1), .int .i64 m.pc, (.slice A_xm2 (m.mem).length c_xm2), .int .i64 m.save, .bool m.lets, .bool m.waits, .int .i64 m.halt, (.slice A_xm3 (m.ins).length c_xm3), (.slice A_xm4 (m.outs).length c_xm4), .int .i64 m.count] := hx18.bx hBxm_17 (by omega)
  have hFxm_18 : ∀ oo, w18.frozen? ⟨w6.heap.size, oo, none⟩ = false := fun oo => (hx18.frozen (by omega)).trans (hFxm_17 oo)
  have hBg_18 : Bx w18 (w9.heap.size) [(.slice A_g1 ((mRun m irqs n).regs).length c_g1), .int .i64 ((mRun m irqs n).pc), (.slice A_g2 ((mRun m irqs n).mem).length c_g2), .int .i64 ((mRun m irqs n).save), .bool (mRun m irqs n).lets, .bool (mRun m irqs n).waits, .int .i64 ((mRun m irqs n).halt), (.slice A_g3 ((mRun m irqs n).ins).length c_g3), (.slice A_g4 ((mRun m irqs n).outs).length c_g4), .int .i64 ((mRun m irqs n).count)] := hx18.bx hBg_17 (by omega)
  have hFg_18 : ∀ oo, w18.frozen? ⟨w9.heap.size, oo, none⟩ = false := fun oo => (hx18.frozen (by omega)).trans (hFg_17 oo)
  clear hBm_17 hFm_17 hBw_17 hFw_17 hBxm_17 hFxm_17 hBg_17 hFg_17
  clear hy
  clear hm_xm1 hm_xm2 hm_xm3 hm_xm4 fr_xm
  clear hm_xirqs1 fr_xirqs
  have hct_g := MchMach.ctV_le ((mRun m irqs n))
  have hrb := blk_mRun m irqs n
  have yg : w9.heap.size < w18.heap.size := by omega
  have xg0 := hBg_18 0 _ rfl
  have xg1 := hBg_18 1 _ rfl
  have xg2 := hBg_18 2 _ rfl
  have xg3 := hBg_18 3 _ rfl
  have xg4 := hBg_18 4 _ rfl
  have xg5 := hBg_18 5 _ rfl
  have xg6 := hBg_18 6 _ rfl
  have xg7 := hBg_18 7 _ rfl
  have xg8 := hBg_18 8 _ rfl
  have xg9 := hBg_18 9 _ rfl
  go_wp2_with fail
  clear xg0 xg1 xg2 xg3 xg4 xg5 xg6 xg7 xg8 xg9 yg
  refine (mark_MchMach ((mRun m irqs n)) _ _ _ _ _ _ _ _ (1) _ (OwnSl.up ho_g1 (fr_g.inl.inl.inl.mk1 (Nat.le_refl _) (by omega)) hx18) (OwnSl.up ho_g2 (fr_g.inl.inl.inr.mk1 (Nat.le_refl _) (by omega)) hx18) (OwnSl.up ho_g3 (fr_g.inl.inr.mk1 (Nat.le_refl _) (by omega)) hx18) (OwnSl.up ho_g4 (fr_g.inr.mk1 (Nat.le_refl _) (by omega)) hx18) fr_g.1 (fun x hx => by have := (fr_g.2 x hx).2; omega) (by omega) (by omega)).mono ?_
  rintro e w19 ⟨rfl, hm_g1, hm_g2, hm_g3, hm_g4, hy⟩
  have hc19 : Chg (F_g1 ++ F_g2 ++ F_g3 ++ F_g4) w18 w19 := hy
  have hs19 := hc19.size
  have he19 : Ext w w19 := Chg.ext he18 hc19 (fun x hx => by have := (fr_g.2 x hx).1; omega)
  have hBm_19 : Bx w19 (w.heap.size) [(.slice Am1 m.regs.length cm1), .int .i64 m.pc, (.slice Am2 m.mem.length cm2), .int .i64 m.save, .bool m.lets, .bool m.waits, .int .i64 m.halt, (.slice Am3 m.ins.length cm3), (.slice Am4 m.outs.length cm4), .int .i64 m.count] := fun j u hu => (hc19.cell (by omega) (by intro hm; have := (fr_g.2 _ hm); have h1 := this.1; have h2 := this.2; omega)).trans (hBm_18 j u hu)
  have hFm_19 : ∀ oo, w19.frozen? ⟨w.heap.size, oo, none⟩ = false := fun oo => (hc19.frozen _ _ (by omega)).trans (hFm_18 oo)
  have hBw_19 : Bx w19 (w4.heap.size) [(.slice A_w1 ((mRun m irqs n).regs).length c_w1), .int .i64 ((mRun m irqs n).pc), (.slice A_w2 ((mRun m irqs n).mem).length c_w2), .int .i64 ((mRun m irqs n).save), .bool (mRun m irqs n).lets, .bool (mRun m irqs n).waits, .int .i64 ((mRun m irqs n).halt), (.slice A_w3 ((mRun m irqs n).ins).length c_w3), (.slice A_w4 ((mRun m irqs n).outs).length c_w4), .int .i64 ((mRun m irqs n).count)] := fun j u hu => (hc19.cell (by omega) (by intro hm; have := (fr_g.2 _ hm); have h1 := this.1; have h2 := this.2; omega)).trans (hBw_18 j u hu)
  have hFw_19 : ∀ oo, w19.frozen? ⟨w4.heap.size, oo, none⟩ = false := fun oo => (hc19.frozen _ _ (by omega)).trans (hFw_18 oo)
  have hBxm_19 : Bx w19 (w6.heap.size) [(.slice A_xm1 (m.regs).length c_xm1), .int .i64 m.pc, (.slice A_xm2 (m.mem).length c_xm2), .int .i64 m.save, .bool m.lets, .bool m.waits, .int .i64 m.halt, (.slice A_xm3 (m.ins).length c_xm3), (.slice A_xm4 (m.outs).length c_xm4), .int .i64 m.count] := fun j u hu => (hc19.cell (by omega) (by intro hm; have := (fr_g.2 _ hm); have h1 := this.1; have h2 := this.2; omega)).trans (hBxm_18 j u hu)
  have hFxm_19 : ∀ oo, w19.frozen? ⟨w6.heap.size, oo, none⟩ = false := fun oo => (hc19.frozen _ _ (by omega)).trans (hFxm_18 oo)
  have hBg_19 : Bx w19 (w9.heap.size) [(.slice A_g1 ((mRun m irqs n).regs).length c_g1), .int .i64 ((mRun m irqs n).pc), (.slice A_g2 ((mRun m irqs n).mem).length c_g2), .int .i64 ((mRun m irqs n).save), .bool (mRun m irqs n).lets, .bool (mRun m irqs n).waits, .int .i64 ((mRun m irqs n).halt), (.slice A_g3 ((mRun m irqs n).ins).length c_g3), (.slice A_g4 ((mRun m irqs n).outs).length c_g4), .int .i64 ((mRun m irqs n).count)] := fun j u hu => (hc19.cell (by omega) (by intro hm; have := (fr_g.2 _ hm); have h1 := this.1; have h2 := this.2; omega)).trans (hBg_18 j u hu)
  have hFg_19 : ∀ oo, w19.frozen? ⟨w9.heap.size, oo, none⟩ = false := fun oo => (hc19.frozen _ _ (by omega)).trans (hFg_18 oo)
  clear hBm_18 hFm_18 hBw_18 hFw_18 hBxm_18 hFxm_18 hBg_18 hFg_18
  have ho_w1' := (OwnSl.up ho_w1 (fr_w.inl.inl.inl.mk1 (Nat.le_refl _) (by omega)) hx18).past fr_w.inl.inl.inl (by omega) hc19 (fun x hx => (fr_w.apart fr_g (by omega)) x (by simp [hx]))
  clear ho_w1
  have ho_w1 := ho_w1'
  clear ho_w1'
  have ho_w2' := (OwnSl.up ho_w2 (fr_w.inl.inl.inr.mk1 (Nat.le_refl _) (by omega)) hx18).past fr_w.inl.inl.inr (by omega) hc19 (fun x hx => (fr_w.apart fr_g (by omega)) x (by simp [hx]))
  clear ho_w2
  have ho_w2 := ho_w2'
  clear ho_w2'
  have ho_w3' := (OwnSl.up ho_w3 (fr_w.inl.inr.mk1 (Nat.le_refl _) (by omega)) hx18).past fr_w.inl.inr (by omega) hc19 (fun x hx => (fr_w.apart fr_g (by omega)) x (by simp [hx]))
  clear ho_w3
  have ho_w3 := ho_w3'
  clear ho_w3'
  have ho_w4' := (OwnSl.up ho_w4 (fr_w.inr.mk1 (Nat.le_refl _) (by omega)) hx18).past fr_w.inr (by omega) hc19 (fun x hx => (fr_w.apart fr_g (by omega)) x (by simp [hx]))
  clear ho_w4
  have ho_w4 := ho_w4'
  clear ho_w4'
  clear hy
  have yg : w9.heap.size < w19.heap.size := by omega
  have xg0 := hBg_19 0 _ rfl
  have xg1 := hBg_19 1 _ rfl
  have xg2 := hBg_19 2 _ rfl
  have xg3 := hBg_19 3 _ rfl
  have xg4 := hBg_19 4 _ rfl
  have xg5 := hBg_19 5 _ rfl
  have xg6 := hBg_19 6 _ rfl
  have xg7 := hBg_19 7 _ rfl
  have xg8 := hBg_19 8 _ rfl
  have xg9 := hBg_19 9 _ rfl
  go_wp2_with fail
  clear xg0 xg1 xg2 xg3 xg4 xg5 xg6 xg7 xg8 xg9 yg
  refine (held_MchMach ((mRun m irqs n)) _ _ _ _ (1) _ ((OwnSl.up hm_g1 (fr_g.inl.inl.inl.mk1 (Nat.le_refl _) (by omega)) (Ext.refl _)).old (fr_g.inl.inl.inl.mk1 (Nat.le_refl _) (by omega))) ((OwnSl.up hm_g2 (fr_g.inl.inl.inr.mk1 (Nat.le_refl _) (by omega)) (Ext.refl _)).old (fr_g.inl.inl.inr.mk1 (Nat.le_refl _) (by omega))) ((OwnSl.up hm_g3 (fr_g.inl.inr.mk1 (Nat.le_refl _) (by omega)) (Ext.refl _)).old (fr_g.inl.inr.mk1 (Nat.le_refl _) (by omega))) ((OwnSl.up hm_g4 (fr_g.inr.mk1 (Nat.le_refl _) (by omega)) (Ext.refl _)).old (fr_g.inr.mk1 (Nat.le_refl _) (by omega))) (by omega) (by omega)).mono ?_
  rintro e w20 ⟨rfl, hy⟩
  have hx20 : Ext w19 w20 := Ext.trans (Ext.auto) hy
  have hs20 := hx20.size
  have he20 : Ext w w20 := he19.trans hx20
  have hBm_20 : Bx w20 (w.heap.size) [(.slice Am1 m.regs.length cm1), .int .i64 m.pc, (.slice Am2 m.mem.length cm2), .int .i64 m.save, .bool m.lets, .bool m.waits, .int .i64 m.halt, (.slice Am3 m.ins.length cm3), (.slice Am4 m.outs.length cm4), .int .i64 m.count] := hx20.bx hBm_19 (by omega)
  have hFm_20 : ∀ oo, w20.frozen? ⟨w.heap.size, oo, none⟩ = false := fun oo => (hx20.frozen (by omega)).trans (hFm_19 oo)
  have hBw_20 : Bx w20 (w4.heap.size) [(.slice A_w1 ((mRun m irqs n).regs).length c_w1), .int .i64 ((mRun m irqs n).pc), (.slice A_w2 ((mRun m irqs n).mem).length c_w2), .int .i64 ((mRun m irqs n).save), .bool (mRun m irqs n).lets, .bool (mRun m irqs n).waits, .int .i64 ((mRun m irqs n).halt), (.slice A_w3 ((mRun m irqs n).ins).length c_w3), (.slice A_w4 ((mRun m irqs n).outs).length c_w4), .int .i64 ((mRun m irqs n).count)] := hx20.bx hBw_19 (by omega)
  have hFw_20 : ∀ oo, w20.frozen? ⟨w4.heap.size, oo, none⟩ = false := fun oo => (hx20.frozen (by omega)).trans (hFw_19 oo)
  have hBxm_20 : Bx w20 (w6.heap.size) [(.slice A_xm1 (m.regs).length c_xm1), .int .i64 m.pc, (.slice A_xm2 (m.mem).length c_xm2), .int .i64 m.save, .bool m.lets, .bool m.waits, .int .i64 m.halt, (.slice A_xm3 (m.ins).length c_xm3), (.slice A_xm4 (m.outs).length c_xm4), .int .i64 m.count] := hx20.bx hBxm_19 (by omega)
  have hFxm_20 : ∀ oo, w20.frozen? ⟨w6.heap.size, oo, none⟩ = false := fun oo => (hx20.frozen (by omega)).trans (hFxm_19 oo)
  have hBg_20 : Bx w20 (w9.heap.size) [(.slice A_g1 ((mRun m irqs n).regs).length c_g1), .int .i64 ((mRun m irqs n).pc), (.slice A_g2 ((mRun m irqs n).mem).length c_g2), .int .i64 ((mRun m irqs n).save), .bool (mRun m irqs n).lets, .bool (mRun m irqs n).waits, .int .i64 ((mRun m irqs n).halt), (.slice A_g3 ((mRun m irqs n).ins).length c_g3), (.slice A_g4 ((mRun m irqs n).outs).length c_g4), .int .i64 ((mRun m irqs n).count)] := hx20.bx hBg_19 (by omega)
  have hFg_20 : ∀ oo, w20.frozen? ⟨w9.heap.size, oo, none⟩ = false := fun oo => (hx20.frozen (by omega)).trans (hFg_19 oo)
  clear hBm_19 hFm_19 hBw_19 hFw_19 hBxm_19 hFxm_19 hBg_19 hFg_19
  clear hy
  have ym : w.heap.size < w20.heap.size := by omega
  have xm0 := hBm_20 0 _ rfl
  have xm1 := hBm_20 1 _ rfl
  have xm2 := hBm_20 2 _ rfl
  have xm3 := hBm_20 3 _ rfl
  have xm4 := hBm_20 4 _ rfl
  have xm5 := hBm_20 5 _ rfl
  have xm6 := hBm_20 6 _ rfl
  have xm7 := hBm_20 7 _ rfl
  have xm8 := hBm_20 8 _ rfl
  have xm9 := hBm_20 9 _ rfl
  go_wp2_with fail
  clear xm0 xm1 xm2 xm3 xm4 xm5 xm6 xm7 xm8 xm9 ym
  refine (to_MchMach m _ _ _ _ _ (hm1.ext (Ext.trans he20 (Ext.auto))) (hm2.ext (Ext.trans he20 (Ext.auto))) (hm3.ext (Ext.trans he20 (Ext.auto))) (hm4.ext (Ext.trans he20 (Ext.auto))) nm).mono ?_
  rintro e w21 ⟨r_zm1, r_zm2, r_zm3, r_zm4, F_zm1, F_zm2, F_zm3, F_zm4, rfl, ho_zm1, ho_zm2, ho_zm3, ho_zm4, hf_zm, hy⟩
  have hx21 : Ext w20 w21 := Ext.trans (Ext.auto) hy
  have hs21 := hx21.size
  have he21 : Ext w w21 := he20.trans hx21
  have hBm_21 : Bx w21 (w.heap.size) [(.slice Am1 m.regs.length cm1), .int .i64 m.pc, (.slice Am2 m.mem.length cm2), .int .i64 m.save, .bool m.lets, .bool m.waits, .int .i64 m.halt, (.slice Am3 m.ins.length cm3), (.slice Am4 m.outs.length cm4), .int .i64 m.count] := hx21.bx hBm_20 (by omega)
  have hFm_21 : ∀ oo, w21.frozen? ⟨w.heap.size, oo, none⟩ = false := fun oo => (hx21.frozen (by omega)).trans (hFm_20 oo)
  have hBw_21 : Bx w21 (w4.heap.size) [(.slice A_w1 ((mRun m irqs n).regs).length c_w1), .int .i64 ((mRun m irqs n).pc), (.slice A_w2 ((mRun m irqs n).mem).length c_w2), .int .i64 ((mRun m irqs n).save), .bool (mRun m irqs n).lets, .bool (mRun m irqs n).waits, .int .i64 ((mRun m irqs n).halt), (.slice A_w3 ((mRun m irqs n).ins).length c_w3), (.slice A_w4 ((mRun m irqs n).outs).length c_w4), .int .i64 ((mRun m irqs n).count)] := hx21.bx hBw_20 (by omega)
  have hFw_21 : ∀ oo, w21.frozen? ⟨w4.heap.size, oo, none⟩ = false := fun oo => (hx21.frozen (by omega)).trans (hFw_20 oo)
  have hBxm_21 : Bx w21 (w6.heap.size) [(.slice A_xm1 (m.regs).length c_xm1), .int .i64 m.pc, (.slice A_xm2 (m.mem).length c_xm2), .int .i64 m.save, .bool m.lets, .bool m.waits, .int .i64 m.halt, (.slice A_xm3 (m.ins).length c_xm3), (.slice A_xm4 (m.outs).length c_xm4), .int .i64 m.count] := hx21.bx hBxm_20 (by omega)
  have hFxm_21 : ∀ oo, w21.frozen? ⟨w6.heap.size, oo, none⟩ = false := fun oo => (hx21.frozen (by omega)).trans (hFxm_20 oo)
  have hBg_21 : Bx w21 (w9.heap.size) [(.slice A_g1 ((mRun m irqs n).regs).length c_g1), .int .i64 ((mRun m irqs n).pc), (.slice A_g2 ((mRun m irqs n).mem).length c_g2), .int .i64 ((mRun m irqs n).save), .bool (mRun m irqs n).lets, .bool (mRun m irqs n).waits, .int .i64 ((mRun m irqs n).halt), (.slice A_g3 ((mRun m irqs n).ins).length c_g3), (.slice A_g4 ((mRun m irqs n).outs).length c_g4), .int .i64 ((mRun m irqs n).count)] := hx21.bx hBg_20 (by omega)
  have hFg_21 : ∀ oo, w21.frozen? ⟨w9.heap.size, oo, none⟩ = false := fun oo => (hx21.frozen (by omega)).trans (hFg_20 oo)
  clear hBm_20 hFm_20 hBw_20 hFw_20 hBxm_20 hFxm_20 hBg_20 hFg_20
  clear hy
  obtain ⟨A_zm1, c_zm1, rfl, -, -⟩ := ho_zm1.sl.form
  obtain ⟨A_zm2, c_zm2, rfl, -, -⟩ := ho_zm2.sl.form
  obtain ⟨A_zm3, c_zm3, rfl, -, -⟩ := ho_zm3.sl.form
  obtain ⟨A_zm4, c_zm4, rfl, -, -⟩ := ho_zm4.sl.form
  have fr_zm : Fr w20 w21 (F_zm1 ++ F_zm2 ++ F_zm3 ++ F_zm4) := hf_zm.mk1 (by first | exact Nat.le_refl _ | (simp; done)) (Nat.le_refl _)
  clear hf_zm
  go_wp2_with fail
  refine (to_ListInt irqs _ _ (hirqs.ext (Ext.trans he21 (Ext.auto))) nirqs).mono ?_
  rintro e w22 ⟨r_zirqs1, F_zirqs1, rfl, ho_zirqs1, hf_zirqs, hy⟩
  have hx22 : Ext w21 w22 := Ext.trans (Ext.auto) hy
  have hs22 := hx22.size
  have he22 : Ext w w22 := he21.trans hx22
  have hBm_22 : Bx w22 (w.heap.size) [(.slice Am1 m.regs.length cm1), .int .i64 m.pc, (.slice Am2 m.mem.length cm2), .int .i64 m.save, .bool m.lets, .bool m.waits, .int .i64 m.halt, (.slice Am3 m.ins.length cm3), (.slice Am4 m.outs.length cm4), .int .i64 m.count] := hx22.bx hBm_21 (by omega)
  have hFm_22 : ∀ oo, w22.frozen? ⟨w.heap.size, oo, none⟩ = false := fun oo => (hx22.frozen (by omega)).trans (hFm_21 oo)
  have hBw_22 : Bx w22 (w4.heap.size) [(.slice A_w1 ((mRun m irqs n).regs).length c_w1), .int .i64 ((mRun m irqs n).pc), (.slice A_w2 ((mRun m irqs n).mem).length c_w2), .int .i64 ((mRun m irqs n).save), .bool (mRun m irqs n).lets, .bool (mRun m irqs n).waits, .int .i64 ((mRun m irqs n).halt), (.slice A_w3 ((mRun m irqs n).ins).length c_w3), (.slice A_w4 ((mRun m irqs n).outs).length c_w4), .int .i64 ((mRun m irqs n).count)] := hx22.bx hBw_21 (by omega)
  have hFw_22 : ∀ oo, w22.frozen? ⟨w4.heap.size, oo, none⟩ = false := fun oo => (hx22.frozen (by omega)).trans (hFw_21 oo)
  have hBxm_22 : Bx w22 (w6.heap.size) [(.slice A_xm1 (m.regs).length c_xm1), .int .i64 m.pc, (.slice A_xm2 (m.mem).length c_xm2), .int .i64 m.save, .bool m.lets, .bool m.waits, .int .i64 m.halt, (.slice A_xm3 (m.ins).length c_xm3), (.slice A_xm4 (m.outs).length c_xm4), .int .i64 m.count] := hx22.bx hBxm_21 (by omega)
  have hFxm_22 : ∀ oo, w22.frozen? ⟨w6.heap.size, oo, none⟩ = false := fun oo => (hx22.frozen (by omega)).trans (hFxm_21 oo)
  have hBg_22 : Bx w22 (w9.heap.size) [(.slice A_g1 ((mRun m irqs n).regs).length c_g1), .int .i64 ((mRun m irqs n).pc), (.slice A_g2 ((mRun m irqs n).mem).length c_g2), .int .i64 ((mRun m irqs n).save), .bool (mRun m irqs n).lets, .bool (mRun m irqs n).waits, .int .i64 ((mRun m irqs n).halt), (.slice A_g3 ((mRun m irqs n).ins).length c_g3), (.slice A_g4 ((mRun m irqs n).outs).length c_g4), .int .i64 ((mRun m irqs n).count)] := hx22.bx hBg_21 (by omega)
  have hFg_22 : ∀ oo, w22.frozen? ⟨w9.heap.size, oo, none⟩ = false := fun oo => (hx22.frozen (by omega)).trans (hFg_21 oo)
  clear hBm_21 hFm_21 hBw_21 hFw_21 hBxm_21 hFxm_21 hBg_21 hFg_21
  clear hy
  obtain ⟨A_zirqs1, c_zirqs1, rfl, -, -⟩ := ho_zirqs1.sl.form
  have fr_zirqs : Fr w21 w22 (F_zirqs1) := hf_zirqs.mk1 (by first | exact Nat.le_refl _ | (simp; done)) (Nat.le_refl _)
  clear hf_zirqs
  go_wp2_with fail
  refine (implMchRun_p m irqs n _ _ _ _ _ _ ((OwnSl.up ho_zm1 (fr_zm.inl.inl.inl.mk1 (Nat.le_refl _) (by omega)) hx22).old (fr_zm.inl.inl.inl.mk1 (Nat.le_refl _) (by omega))) ((OwnSl.up ho_zm2 (fr_zm.inl.inl.inr.mk1 (Nat.le_refl _) (by omega)) hx22).old (fr_zm.inl.inl.inr.mk1 (Nat.le_refl _) (by omega))) ((OwnSl.up ho_zm3 (fr_zm.inl.inr.mk1 (Nat.le_refl _) (by omega)) hx22).old (fr_zm.inl.inr.mk1 (Nat.le_refl _) (by omega))) ((OwnSl.up ho_zm4 (fr_zm.inr.mk1 (Nat.le_refl _) (by omega)) hx22).old (fr_zm.inr.mk1 (Nat.le_refl _) (by omega))) ((OwnSl.up ho_zirqs1 (fr_zirqs.mk1 (Nat.le_refl _) (by omega)) (Ext.refl _)).old (fr_zirqs.mk1 (Nat.le_refl _) (by omega))) (by omega) (by omega) (by omega) (by omega) (by omega) lf (hF.ext (Ext.trans he22 (Ext.auto)))).mono ?_
  rintro e w23 ⟨r_h1, r_h2, r_h3, r_h4, F_h1, F_h2, F_h3, F_h4, rfl, ho_h1, ho_h2, ho_h3, ho_h4, hf_h, hy⟩
  have hx23 : Ext w22 w23 := Ext.trans (Ext.auto) hy
  have hs23 := hx23.size
  have he23 : Ext w w23 := he22.trans hx23
  have hBm_23 : Bx w23 (w.heap.size) [(.slice Am1 m.regs.length cm1), .int .i64 m.pc, (.slice Am2 m.mem.length cm2), .int .i64 m.save, .bool m.lets, .bool m.waits, .int .i64 m.halt, (.slice Am3 m.ins.length cm3), (.slice Am4 m.outs.length cm4), .int .i64 m.count] := hx23.bx hBm_22 (by omega)
  have hFm_23 : ∀ oo, w23.frozen? ⟨w.heap.size, oo, none⟩ = false := fun oo => (hx23.frozen (by omega)).trans (hFm_22 oo)
  have hBw_23 : Bx w23 (w4.heap.size) [(.slice A_w1 ((mRun m irqs n).regs).length c_w1), .int .i64 ((mRun m irqs n).pc), (.slice A_w2 ((mRun m irqs n).mem).length c_w2), .int .i64 ((mRun m irqs n).save), .bool (mRun m irqs n).lets, .bool (mRun m irqs n).waits, .int .i64 ((mRun m irqs n).halt), (.slice A_w3 ((mRun m irqs n).ins).length c_w3), (.slice A_w4 ((mRun m irqs n).outs).length c_w4), .int .i64 ((mRun m irqs n).count)] := hx23.bx hBw_22 (by omega)
  have hFw_23 : ∀ oo, w23.frozen? ⟨w4.heap.size, oo, none⟩ = false := fun oo => (hx23.frozen (by omega)).trans (hFw_22 oo)
  have hBxm_23 : Bx w23 (w6.heap.size) [(.slice A_xm1 (m.regs).length c_xm1), .int .i64 m.pc, (.slice A_xm2 (m.mem).length c_xm2), .int .i64 m.save, .bool m.lets, .bool m.waits, .int .i64 m.halt, (.slice A_xm3 (m.ins).length c_xm3), (.slice A_xm4 (m.outs).length c_xm4), .int .i64 m.count] := hx23.bx hBxm_22 (by omega)
  have hFxm_23 : ∀ oo, w23.frozen? ⟨w6.heap.size, oo, none⟩ = false := fun oo => (hx23.frozen (by omega)).trans (hFxm_22 oo)
  have hBg_23 : Bx w23 (w9.heap.size) [(.slice A_g1 ((mRun m irqs n).regs).length c_g1), .int .i64 ((mRun m irqs n).pc), (.slice A_g2 ((mRun m irqs n).mem).length c_g2), .int .i64 ((mRun m irqs n).save), .bool (mRun m irqs n).lets, .bool (mRun m irqs n).waits, .int .i64 ((mRun m irqs n).halt), (.slice A_g3 ((mRun m irqs n).ins).length c_g3), (.slice A_g4 ((mRun m irqs n).outs).length c_g4), .int .i64 ((mRun m irqs n).count)] := hx23.bx hBg_22 (by omega)
  have hFg_23 : ∀ oo, w23.frozen? ⟨w9.heap.size, oo, none⟩ = false := fun oo => (hx23.frozen (by omega)).trans (hFg_22 oo)
  clear hBm_22 hFm_22 hBw_22 hFw_22 hBxm_22 hFxm_22 hBg_22 hFg_22
  clear hy
  obtain ⟨A_h1, c_h1, rfl, -, -⟩ := ho_h1.sl.form
  obtain ⟨A_h2, c_h2, rfl, -, -⟩ := ho_h2.sl.form
  obtain ⟨A_h3, c_h3, rfl, -, -⟩ := ho_h3.sl.form
  obtain ⟨A_h4, c_h4, rfl, -, -⟩ := ho_h4.sl.form
  have fr_h : Fr w22 w23 (F_h1 ++ F_h2 ++ F_h3 ++ F_h4) := hf_h.mk1 (by first | exact Nat.le_refl _ | (simp; done)) (Nat.le_refl _)
  clear hf_h
  have yw : w4.heap.size < w23.heap.size := by omega
  have xw0 := hBw_23 0 _ rfl
  have xw1 := hBw_23 1 _ rfl
  have xw2 := hBw_23 2 _ rfl
  have xw3 := hBw_23 3 _ rfl
  have xw4 := hBw_23 4 _ rfl
  have xw5 := hBw_23 5 _ rfl
  have xw6 := hBw_23 6 _ rfl
  have xw7 := hBw_23 7 _ rfl
  have xw8 := hBw_23 8 _ rfl
  have xw9 := hBw_23 9 _ rfl
  go_wp2_with fail
  clear xw0 xw1 xw2 xw3 xw4 xw5 xw6 xw7 xw8 xw9 yw
  have hx24 : Ext w23 (w23.alloc (Obj.cells #[(.slice A_h1 ((mRun m irqs n).regs).length c_h1), .int .i64 ((mRun m irqs n).pc), (.slice A_h2 ((mRun m irqs n).mem).length c_h2), .int .i64 ((mRun m irqs n).save), .bool (mRun m irqs n).lets, .bool (mRun m irqs n).waits, .int .i64 ((mRun m irqs n).halt), (.slice A_h3 ((mRun m irqs n).ins).length c_h3), (.slice A_h4 ((mRun m irqs n).outs).length c_h4), .int .i64 ((mRun m irqs n).count)] 26)) := (Ext.auto)
  have hs24 : w23.heap.size + 1 ≤ ((w23.alloc (Obj.cells #[(.slice A_h1 ((mRun m irqs n).regs).length c_h1), .int .i64 ((mRun m irqs n).pc), (.slice A_h2 ((mRun m irqs n).mem).length c_h2), .int .i64 ((mRun m irqs n).save), .bool (mRun m irqs n).lets, .bool (mRun m irqs n).waits, .int .i64 ((mRun m irqs n).halt), (.slice A_h3 ((mRun m irqs n).ins).length c_h3), (.slice A_h4 ((mRun m irqs n).outs).length c_h4), .int .i64 ((mRun m irqs n).count)] 26))).heap.size := by simp
  have he24 : Ext w (w23.alloc (Obj.cells #[(.slice A_h1 ((mRun m irqs n).regs).length c_h1), .int .i64 ((mRun m irqs n).pc), (.slice A_h2 ((mRun m irqs n).mem).length c_h2), .int .i64 ((mRun m irqs n).save), .bool (mRun m irqs n).lets, .bool (mRun m irqs n).waits, .int .i64 ((mRun m irqs n).halt), (.slice A_h3 ((mRun m irqs n).ins).length c_h3), (.slice A_h4 ((mRun m irqs n).outs).length c_h4), .int .i64 ((mRun m irqs n).count)] 26)) := he23.trans hx24
  have hBm_24 : Bx (w23.alloc (Obj.cells #[(.slice A_h1 ((mRun m irqs n).regs).length c_h1), .int .i64 ((mRun m irqs n).pc), (.slice A_h2 ((mRun m irqs n).mem).length c_h2), .int .i64 ((mRun m irqs n).save), .bool (mRun m irqs n).lets, .bool (mRun m irqs n).waits, .int .i64 ((mRun m irqs n).halt), (.slice A_h3 ((mRun m irqs n).ins).length c_h3), (.slice A_h4 ((mRun m irqs n).outs).length c_h4), .int .i64 ((mRun m irqs n).count)] 26)) (w.heap.size) [(.slice Am1 m.regs.length cm1), .int .i64 m.pc, (.slice Am2 m.mem.length cm2), .int .i64 m.save, .bool m.lets, .bool m.waits, .int .i64 m.halt, (.slice Am3 m.ins.length cm3), (.slice Am4 m.outs.length cm4), .int .i64 m.count] := hx24.bx hBm_23 (by omega)
  have hFm_24 : ∀ oo, ((w23.alloc (Obj.cells #[(.slice A_h1 ((mRun m irqs n).regs).length c_h1), .int .i64 ((mRun m irqs n).pc), (.slice A_h2 ((mRun m irqs n).mem).length c_h2), .int .i64 ((mRun m irqs n).save), .bool (mRun m irqs n).lets, .bool (mRun m irqs n).waits, .int .i64 ((mRun m irqs n).halt), (.slice A_h3 ((mRun m irqs n).ins).length c_h3), (.slice A_h4 ((mRun m irqs n).outs).length c_h4), .int .i64 ((mRun m irqs n).count)] 26))).frozen? ⟨w.heap.size, oo, none⟩ = false := fun oo => (hx24.frozen (by omega)).trans (hFm_23 oo)
  have hBw_24 : Bx (w23.alloc (Obj.cells #[(.slice A_h1 ((mRun m irqs n).regs).length c_h1), .int .i64 ((mRun m irqs n).pc), (.slice A_h2 ((mRun m irqs n).mem).length c_h2), .int .i64 ((mRun m irqs n).save), .bool (mRun m irqs n).lets, .bool (mRun m irqs n).waits, .int .i64 ((mRun m irqs n).halt), (.slice A_h3 ((mRun m irqs n).ins).length c_h3), (.slice A_h4 ((mRun m irqs n).outs).length c_h4), .int .i64 ((mRun m irqs n).count)] 26)) (w4.heap.size) [(.slice A_w1 ((mRun m irqs n).regs).length c_w1), .int .i64 ((mRun m irqs n).pc), (.slice A_w2 ((mRun m irqs n).mem).length c_w2), .int .i64 ((mRun m irqs n).save), .bool (mRun m irqs n).lets, .bool (mRun m irqs n).waits, .int .i64 ((mRun m irqs n).halt), (.slice A_w3 ((mRun m irqs n).ins).length c_w3), (.slice A_w4 ((mRun m irqs n).outs).length c_w4), .int .i64 ((mRun m irqs n).count)] := hx24.bx hBw_23 (by omega)
  have hFw_24 : ∀ oo, ((w23.alloc (Obj.cells #[(.slice A_h1 ((mRun m irqs n).regs).length c_h1), .int .i64 ((mRun m irqs n).pc), (.slice A_h2 ((mRun m irqs n).mem).length c_h2), .int .i64 ((mRun m irqs n).save), .bool (mRun m irqs n).lets, .bool (mRun m irqs n).waits, .int .i64 ((mRun m irqs n).halt), (.slice A_h3 ((mRun m irqs n).ins).length c_h3), (.slice A_h4 ((mRun m irqs n).outs).length c_h4), .int .i64 ((mRun m irqs n).count)] 26))).frozen? ⟨w4.heap.size, oo, none⟩ = false := fun oo => (hx24.frozen (by omega)).trans (hFw_23 oo)
  have hBxm_24 : Bx (w23.alloc (Obj.cells #[(.slice A_h1 ((mRun m irqs n).regs).length c_h1), .int .i64 ((mRun m irqs n).pc), (.slice A_h2 ((mRun m irqs n).mem).length c_h2), .int .i64 ((mRun m irqs n).save), .bool (mRun m irqs n).lets, .bool (mRun m irqs n).waits, .int .i64 ((mRun m irqs n).halt), (.slice A_h3 ((mRun m irqs n).ins).length c_h3), (.slice A_h4 ((mRun m irqs n).outs).length c_h4), .int .i64 ((mRun m irqs n).count)] 26)) (w6.heap.size) [(.slice A_xm1 (m.regs).length c_xm1), .int .i64 m.pc, (.slice A_xm2 (m.mem).length c_xm2), .int .i64 m.save, .bool m.lets, .bool m.waits, .int .i64 m.halt, (.slice A_xm3 (m.ins).length c_xm3), (.slice A_xm4 (m.outs).length c_xm4), .int .i64 m.count] := hx24.bx hBxm_23 (by omega)
  have hFxm_24 : ∀ oo, ((w23.alloc (Obj.cells #[(.slice A_h1 ((mRun m irqs n).regs).length c_h1), .int .i64 ((mRun m irqs n).pc), (.slice A_h2 ((mRun m irqs n).mem).length c_h2), .int .i64 ((mRun m irqs n).save), .bool (mRun m irqs n).lets, .bool (mRun m irqs n).waits, .int .i64 ((mRun m irqs n).halt), (.slice A_h3 ((mRun m irqs n).ins).length c_h3), (.slice A_h4 ((mRun m irqs n).outs).length c_h4), .int .i64 ((mRun m irqs n).count)] 26))).frozen? ⟨w6.heap.size, oo, none⟩ = false := fun oo => (hx24.frozen (by omega)).trans (hFxm_23 oo)
  have hBg_24 : Bx (w23.alloc (Obj.cells #[(.slice A_h1 ((mRun m irqs n).regs).length c_h1), .int .i64 ((mRun m irqs n).pc), (.slice A_h2 ((mRun m irqs n).mem).length c_h2), .int .i64 ((mRun m irqs n).save), .bool (mRun m irqs n).lets, .bool (mRun m irqs n).waits, .int .i64 ((mRun m irqs n).halt), (.slice A_h3 ((mRun m irqs n).ins).length c_h3), (.slice A_h4 ((mRun m irqs n).outs).length c_h4), .int .i64 ((mRun m irqs n).count)] 26)) (w9.heap.size) [(.slice A_g1 ((mRun m irqs n).regs).length c_g1), .int .i64 ((mRun m irqs n).pc), (.slice A_g2 ((mRun m irqs n).mem).length c_g2), .int .i64 ((mRun m irqs n).save), .bool (mRun m irqs n).lets, .bool (mRun m irqs n).waits, .int .i64 ((mRun m irqs n).halt), (.slice A_g3 ((mRun m irqs n).ins).length c_g3), (.slice A_g4 ((mRun m irqs n).outs).length c_g4), .int .i64 ((mRun m irqs n).count)] := hx24.bx hBg_23 (by omega)
  have hFg_24 : ∀ oo, ((w23.alloc (Obj.cells #[(.slice A_h1 ((mRun m irqs n).regs).length c_h1), .int .i64 ((mRun m irqs n).pc), (.slice A_h2 ((mRun m irqs n).mem).length c_h2), .int .i64 ((mRun m irqs n).save), .bool (mRun m irqs n).lets, .bool (mRun m irqs n).waits, .int .i64 ((mRun m irqs n).halt), (.slice A_h3 ((mRun m irqs n).ins).length c_h3), (.slice A_h4 ((mRun m irqs n).outs).length c_h4), .int .i64 ((mRun m irqs n).count)] 26))).frozen? ⟨w9.heap.size, oo, none⟩ = false := fun oo => (hx24.frozen (by omega)).trans (hFg_23 oo)
  have hBh_24 : Bx (w23.alloc (Obj.cells #[(.slice A_h1 ((mRun m irqs n).regs).length c_h1), .int .i64 ((mRun m irqs n).pc), (.slice A_h2 ((mRun m irqs n).mem).length c_h2), .int .i64 ((mRun m irqs n).save), .bool (mRun m irqs n).lets, .bool (mRun m irqs n).waits, .int .i64 ((mRun m irqs n).halt), (.slice A_h3 ((mRun m irqs n).ins).length c_h3), (.slice A_h4 ((mRun m irqs n).outs).length c_h4), .int .i64 ((mRun m irqs n).count)] 26)) (w23.heap.size) [(.slice A_h1 ((mRun m irqs n).regs).length c_h1), .int .i64 ((mRun m irqs n).pc), (.slice A_h2 ((mRun m irqs n).mem).length c_h2), .int .i64 ((mRun m irqs n).save), .bool (mRun m irqs n).lets, .bool (mRun m irqs n).waits, .int .i64 ((mRun m irqs n).halt), (.slice A_h3 ((mRun m irqs n).ins).length c_h3), (.slice A_h4 ((mRun m irqs n).outs).length c_h4), .int .i64 ((mRun m irqs n).count)] := by have := (by have := (Bx.new w23 #[(.slice A_h1 ((mRun m irqs n).regs).length c_h1), .int .i64 ((mRun m irqs n).pc), (.slice A_h2 ((mRun m irqs n).mem).length c_h2), .int .i64 ((mRun m irqs n).save), .bool (mRun m irqs n).lets, .bool (mRun m irqs n).waits, .int .i64 ((mRun m irqs n).halt), (.slice A_h3 ((mRun m irqs n).ins).length c_h3), (.slice A_h4 ((mRun m irqs n).outs).length c_h4), .int .i64 ((mRun m irqs n).count)] 26); simpa using this); exact this
  have hFh_24 : ∀ oo, ((w23.alloc (Obj.cells #[(.slice A_h1 ((mRun m irqs n).regs).length c_h1), .int .i64 ((mRun m irqs n).pc), (.slice A_h2 ((mRun m irqs n).mem).length c_h2), .int .i64 ((mRun m irqs n).save), .bool (mRun m irqs n).lets, .bool (mRun m irqs n).waits, .int .i64 ((mRun m irqs n).halt), (.slice A_h3 ((mRun m irqs n).ins).length c_h3), (.slice A_h4 ((mRun m irqs n).outs).length c_h4), .int .i64 ((mRun m irqs n).count)] 26))).frozen? ⟨w23.heap.size, oo, none⟩ = false := fun oo => by simp
  generalize (w23.alloc (Obj.cells #[(.slice A_h1 ((mRun m irqs n).regs).length c_h1), .int .i64 ((mRun m irqs n).pc), (.slice A_h2 ((mRun m irqs n).mem).length c_h2), .int .i64 ((mRun m irqs n).save), .bool (mRun m irqs n).lets, .bool (mRun m irqs n).waits, .int .i64 ((mRun m irqs n).halt), (.slice A_h3 ((mRun m irqs n).ins).length c_h3), (.slice A_h4 ((mRun m irqs n).outs).length c_h4), .int .i64 ((mRun m irqs n).count)] 26)) = w24 at *
  clear hBm_23 hFm_23 hBw_23 hFw_23 hBxm_23 hFxm_23 hBg_23 hFg_23
  refine (eq_MchMach ((mRun m irqs n)) ((mRun m irqs n)) _ _ _ _ _ _ _ _  _ ((OwnSl.up ho_h1 (fr_h.inl.inl.inl.mk1 (Nat.le_refl _) (by omega)) hx24).old (fr_h.inl.inl.inl.mk1 (Nat.le_refl _) (by omega))) ((OwnSl.up ho_h2 (fr_h.inl.inl.inr.mk1 (Nat.le_refl _) (by omega)) hx24).old (fr_h.inl.inl.inr.mk1 (Nat.le_refl _) (by omega))) ((OwnSl.up ho_h3 (fr_h.inl.inr.mk1 (Nat.le_refl _) (by omega)) hx24).old (fr_h.inl.inr.mk1 (Nat.le_refl _) (by omega))) ((OwnSl.up ho_h4 (fr_h.inr.mk1 (Nat.le_refl _) (by omega)) hx24).old (fr_h.inr.mk1 (Nat.le_refl _) (by omega))) ((OwnSl.up ho_w1 (fr_w.inl.inl.inl.mk1 (Nat.le_refl _) (by omega)) (Ext.trans (Ext.trans (Ext.trans (Ext.trans hx20 hx21) hx22) hx23) hx24)).old (fr_w.inl.inl.inl.mk1 (Nat.le_refl _) (by omega))) ((OwnSl.up ho_w2 (fr_w.inl.inl.inr.mk1 (Nat.le_refl _) (by omega)) (Ext.trans (Ext.trans (Ext.trans (Ext.trans hx20 hx21) hx22) hx23) hx24)).old (fr_w.inl.inl.inr.mk1 (Nat.le_refl _) (by omega))) ((OwnSl.up ho_w3 (fr_w.inl.inr.mk1 (Nat.le_refl _) (by omega)) (Ext.trans (Ext.trans (Ext.trans (Ext.trans hx20 hx21) hx22) hx23) hx24)).old (fr_w.inl.inr.mk1 (Nat.le_refl _) (by omega))) ((OwnSl.up ho_w4 (fr_w.inr.mk1 (Nat.le_refl _) (by omega)) (Ext.trans (Ext.trans (Ext.trans (Ext.trans hx20 hx21) hx22) hx23) hx24)).old (fr_w.inr.mk1 (Nat.le_refl _) (by omega)))).mono ?_
  rintro e w25 ⟨rfl, hy⟩
  have hx25 : Ext w24 w25 := Ext.trans (Ext.auto) hy
  have hs25 := hx25.size
  have he25 : Ext w w25 := he24.trans hx25
  have hBm_25 : Bx w25 (w.heap.size) [(.slice Am1 m.regs.length cm1), .int .i64 m.pc, (.slice Am2 m.mem.length cm2), .int .i64 m.save, .bool m.lets, .bool m.waits, .int .i64 m.halt, (.slice Am3 m.ins.length cm3), (.slice Am4 m.outs.length cm4), .int .i64 m.count] := hx25.bx hBm_24 (by omega)
  have hFm_25 : ∀ oo, w25.frozen? ⟨w.heap.size, oo, none⟩ = false := fun oo => (hx25.frozen (by omega)).trans (hFm_24 oo)
  have hBw_25 : Bx w25 (w4.heap.size) [(.slice A_w1 ((mRun m irqs n).regs).length c_w1), .int .i64 ((mRun m irqs n).pc), (.slice A_w2 ((mRun m irqs n).mem).length c_w2), .int .i64 ((mRun m irqs n).save), .bool (mRun m irqs n).lets, .bool (mRun m irqs n).waits, .int .i64 ((mRun m irqs n).halt), (.slice A_w3 ((mRun m irqs n).ins).length c_w3), (.slice A_w4 ((mRun m irqs n).outs).length c_w4), .int .i64 ((mRun m irqs n).count)] := hx25.bx hBw_24 (by omega)
  have hFw_25 : ∀ oo, w25.frozen? ⟨w4.heap.size, oo, none⟩ = false := fun oo => (hx25.frozen (by omega)).trans (hFw_24 oo)
  have hBxm_25 : Bx w25 (w6.heap.size) [(.slice A_xm1 (m.regs).length c_xm1), .int .i64 m.pc, (.slice A_xm2 (m.mem).length c_xm2), .int .i64 m.save, .bool m.lets, .bool m.waits, .int .i64 m.halt, (.slice A_xm3 (m.ins).length c_xm3), (.slice A_xm4 (m.outs).length c_xm4), .int .i64 m.count] := hx25.bx hBxm_24 (by omega)
  have hFxm_25 : ∀ oo, w25.frozen? ⟨w6.heap.size, oo, none⟩ = false := fun oo => (hx25.frozen (by omega)).trans (hFxm_24 oo)
  have hBg_25 : Bx w25 (w9.heap.size) [(.slice A_g1 ((mRun m irqs n).regs).length c_g1), .int .i64 ((mRun m irqs n).pc), (.slice A_g2 ((mRun m irqs n).mem).length c_g2), .int .i64 ((mRun m irqs n).save), .bool (mRun m irqs n).lets, .bool (mRun m irqs n).waits, .int .i64 ((mRun m irqs n).halt), (.slice A_g3 ((mRun m irqs n).ins).length c_g3), (.slice A_g4 ((mRun m irqs n).outs).length c_g4), .int .i64 ((mRun m irqs n).count)] := hx25.bx hBg_24 (by omega)
  have hFg_25 : ∀ oo, w25.frozen? ⟨w9.heap.size, oo, none⟩ = false := fun oo => (hx25.frozen (by omega)).trans (hFg_24 oo)
  have hBh_25 : Bx w25 (w23.heap.size) [(.slice A_h1 ((mRun m irqs n).regs).length c_h1), .int .i64 ((mRun m irqs n).pc), (.slice A_h2 ((mRun m irqs n).mem).length c_h2), .int .i64 ((mRun m irqs n).save), .bool (mRun m irqs n).lets, .bool (mRun m irqs n).waits, .int .i64 ((mRun m irqs n).halt), (.slice A_h3 ((mRun m irqs n).ins).length c_h3), (.slice A_h4 ((mRun m irqs n).outs).length c_h4), .int .i64 ((mRun m irqs n).count)] := hx25.bx hBh_24 (by omega)
  have hFh_25 : ∀ oo, w25.frozen? ⟨w23.heap.size, oo, none⟩ = false := fun oo => (hx25.frozen (by omega)).trans (hFh_24 oo)
  clear hBm_24 hFm_24 hBw_24 hFw_24 hBxm_24 hFxm_24 hBg_24 hFg_24 hBh_24 hFh_24
  clear hy
  have yg : w9.heap.size < w25.heap.size := by omega
  have xg0 := hBg_25 0 _ rfl
  have xg1 := hBg_25 1 _ rfl
  have xg2 := hBg_25 2 _ rfl
  have xg3 := hBg_25 3 _ rfl
  have xg4 := hBg_25 4 _ rfl
  have xg5 := hBg_25 5 _ rfl
  have xg6 := hBg_25 6 _ rfl
  have xg7 := hBg_25 7 _ rfl
  have xg8 := hBg_25 8 _ rfl
  have xg9 := hBg_25 9 _ rfl
  go_wp2_with fail
  clear xg0 xg1 xg2 xg3 xg4 xg5 xg6 xg7 xg8 xg9 yg
  refine (held_MchMach ((mRun m irqs n)) _ _ _ _ (1) _ ((OwnSl.up hm_g1 (fr_g.inl.inl.inl.mk1 (Nat.le_refl _) (by omega)) (Ext.trans (Ext.trans (Ext.trans (Ext.trans (Ext.trans hx20 hx21) hx22) hx23) hx24) hx25)).old (fr_g.inl.inl.inl.mk1 (Nat.le_refl _) (by omega))) ((OwnSl.up hm_g2 (fr_g.inl.inl.inr.mk1 (Nat.le_refl _) (by omega)) (Ext.trans (Ext.trans (Ext.trans (Ext.trans (Ext.trans hx20 hx21) hx22) hx23) hx24) hx25)).old (fr_g.inl.inl.inr.mk1 (Nat.le_refl _) (by omega))) ((OwnSl.up hm_g3 (fr_g.inl.inr.mk1 (Nat.le_refl _) (by omega)) (Ext.trans (Ext.trans (Ext.trans (Ext.trans (Ext.trans hx20 hx21) hx22) hx23) hx24) hx25)).old (fr_g.inl.inr.mk1 (Nat.le_refl _) (by omega))) ((OwnSl.up hm_g4 (fr_g.inr.mk1 (Nat.le_refl _) (by omega)) (Ext.trans (Ext.trans (Ext.trans (Ext.trans (Ext.trans hx20 hx21) hx22) hx23) hx24) hx25)).old (fr_g.inr.mk1 (Nat.le_refl _) (by omega))) (by omega) (by omega)).mono ?_
  rintro e w26 ⟨rfl, hy⟩
  have hx26 : Ext w25 w26 := Ext.trans (Ext.auto) hy
  have hs26 := hx26.size
  have he26 : Ext w w26 := he25.trans hx26
  have hBm_26 : Bx w26 (w.heap.size) [(.slice Am1 m.regs.length cm1), .int .i64 m.pc, (.slice Am2 m.mem.length cm2), .int .i64 m.save, .bool m.lets, .bool m.waits, .int .i64 m.halt, (.slice Am3 m.ins.length cm3), (.slice Am4 m.outs.length cm4), .int .i64 m.count] := hx26.bx hBm_25 (by omega)
  have hFm_26 : ∀ oo, w26.frozen? ⟨w.heap.size, oo, none⟩ = false := fun oo => (hx26.frozen (by omega)).trans (hFm_25 oo)
  have hBw_26 : Bx w26 (w4.heap.size) [(.slice A_w1 ((mRun m irqs n).regs).length c_w1), .int .i64 ((mRun m irqs n).pc), (.slice A_w2 ((mRun m irqs n).mem).length c_w2), .int .i64 ((mRun m irqs n).save), .bool (mRun m irqs n).lets, .bool (mRun m irqs n).waits, .int .i64 ((mRun m irqs n).halt), (.slice A_w3 ((mRun m irqs n).ins).length c_w3), (.slice A_w4 ((mRun m irqs n).outs).length c_w4), .int .i64 ((mRun m irqs n).count)] := hx26.bx hBw_25 (by omega)
  have hFw_26 : ∀ oo, w26.frozen? ⟨w4.heap.size, oo, none⟩ = false := fun oo => (hx26.frozen (by omega)).trans (hFw_25 oo)
  have hBxm_26 : Bx w26 (w6.heap.size) [(.slice A_xm1 (m.regs).length c_xm1), .int .i64 m.pc, (.slice A_xm2 (m.mem).length c_xm2), .int .i64 m.save, .bool m.lets, .bool m.waits, .int .i64 m.halt, (.slice A_xm3 (m.ins).length c_xm3), (.slice A_xm4 (m.outs).length c_xm4), .int .i64 m.count] := hx26.bx hBxm_25 (by omega)
  have hFxm_26 : ∀ oo, w26.frozen? ⟨w6.heap.size, oo, none⟩ = false := fun oo => (hx26.frozen (by omega)).trans (hFxm_25 oo)
  have hBg_26 : Bx w26 (w9.heap.size) [(.slice A_g1 ((mRun m irqs n).regs).length c_g1), .int .i64 ((mRun m irqs n).pc), (.slice A_g2 ((mRun m irqs n).mem).length c_g2), .int .i64 ((mRun m irqs n).save), .bool (mRun m irqs n).lets, .bool (mRun m irqs n).waits, .int .i64 ((mRun m irqs n).halt), (.slice A_g3 ((mRun m irqs n).ins).length c_g3), (.slice A_g4 ((mRun m irqs n).outs).length c_g4), .int .i64 ((mRun m irqs n).count)] := hx26.bx hBg_25 (by omega)
  have hFg_26 : ∀ oo, w26.frozen? ⟨w9.heap.size, oo, none⟩ = false := fun oo => (hx26.frozen (by omega)).trans (hFg_25 oo)
  have hBh_26 : Bx w26 (w23.heap.size) [(.slice A_h1 ((mRun m irqs n).regs).length c_h1), .int .i64 ((mRun m irqs n).pc), (.slice A_h2 ((mRun m irqs n).mem).length c_h2), .int .i64 ((mRun m irqs n).save), .bool (mRun m irqs n).lets, .bool (mRun m irqs n).waits, .int .i64 ((mRun m irqs n).halt), (.slice A_h3 ((mRun m irqs n).ins).length c_h3), (.slice A_h4 ((mRun m irqs n).outs).length c_h4), .int .i64 ((mRun m irqs n).count)] := hx26.bx hBh_25 (by omega)
  have hFh_26 : ∀ oo, w26.frozen? ⟨w23.heap.size, oo, none⟩ = false := fun oo => (hx26.frozen (by omega)).trans (hFh_25 oo)
  clear hBm_25 hFm_25 hBw_25 hFw_25 hBxm_25 hFxm_25 hBg_25 hFg_25 hBh_25 hFh_25
  clear hy
  go_wp2
  go_ret
  exact ⟨rfl, he26⟩

end Go.Proofs.YtabldlhigjhkeaaDoor
