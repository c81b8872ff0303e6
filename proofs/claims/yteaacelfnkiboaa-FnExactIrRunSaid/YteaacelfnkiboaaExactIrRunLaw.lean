/-
  The law FnExactIrRun returns true for every input.
-/
import Derived.Test.YteaacelfnkiboaaRunX
import Derived.Test.YteaacelfnkiboaaRunI
import Derived.Test.YteaacelfnkiboaaIrBlk
import Derived.Test.YteaacelfnkiboaaTo
import Derived.Test.YteaacelfnkiboaaEq
import Derived.Test.YteaacelfnkiboaaSz
import Derived.Test.YteaacelfnkiboaaMark
import Derived.Test.YteaacelfnkiboaaMarkN
import Derived.Test.YteaacelfnkiboaaCt
import Derived.Test.YteaacelfnkiboaaRegLib
import Derived.Test.YteaacelfnkiboaaCertLib
namespace Go.Proofs.Yteaacelfnkiboaa
open Go.RowKit

set_option linter.unusedVariables false
set_option linter.unusedSimpArgs false
set_option maxRecDepth 100000

set_option maxHeartbeats 16000000 in
theorem lawExactIrRun_any (b : IrBlock) (m : MchMach) (vb1 vm1 vm2 vm3 vm4 : Value) (w : World) (hb1 : Sl w (Old w) vb1 b.ops) (hm1 : Sl w (Old w) vm1 m.regs) (hm2 : Sl w (Old w) vm2 m.mem) (hm3 : Sl w (Old w) vm3 m.ins) (hm4 : Sl w (Old w) vm4 m.outs) (hkb : b.Ok) (hkm : m.Ok)  :
    Calls Try.prog 5 #[.agg #[.int .i64 b.pc, .int .i64 b.len, vb1, .int .i64 b.fin, .int .i64 b.x, .int .i64 b.y, .int .i64 b.k], .agg #[vm1, .int .i64 m.pc, vm2, .int .i64 m.save, .bool m.lets, .bool m.waits, .int .i64 m.halt, vm3, vm4, .int .i64 m.count]] w fun e w' => e = .returned (.bool true) ∧ Ext w w' := by
  obtain ⟨Ab1, cb1, rfl, hlb1, hmb1⟩ := hb1.form
  obtain ⟨Am1, cm1, rfl, hlm1, hmm1⟩ := hm1.form
  obtain ⟨Am2, cm2, rfl, hlm2, hmm2⟩ := hm2.form
  obtain ⟨Am3, cm3, rfl, hlm3, hmm3⟩ := hm3.form
  obtain ⟨Am4, cm4, rfl, hlm4, hmm4⟩ := hm4.form
  have b1_ := blk_len m.regs
  have b2_ := blk_len m.mem
  have b3_ := blk_len m.ins
  have b4_ := blk_len m.outs
  have hbo_ : Bulk.blk m = Bulk.blk m.regs + Bulk.blk m.mem + Bulk.blk m.ins + Bulk.blk m.outs := rfl
  go_enter Try.func5, Try.ntmps5
  go_wp2_with fail
  have he0 : Ext w ((w.alloc (Obj.cells #[.int .i64 b.pc, .int .i64 b.len, (.slice Ab1 b.ops.length cb1), .int .i64 b.fin, .int .i64 b.x, .int .i64 b.y, .int .i64 b.k] 40)).alloc (Obj.cells #[(.slice Am1 m.regs.length cm1), .int .i64 m.pc, (.slice Am2 m.mem.length cm2), .int .i64 m.save, .bool m.lets, .bool m.waits, .int .i64 m.halt, (.slice Am3 m.ins.length cm3), (.slice Am4 m.outs.length cm4), .int .i64 m.count] 43)) := (Ext.auto)
  have hs0 : w.heap.size + 2 ≤ (((w.alloc (Obj.cells #[.int .i64 b.pc, .int .i64 b.len, (.slice Ab1 b.ops.length cb1), .int .i64 b.fin, .int .i64 b.x, .int .i64 b.y, .int .i64 b.k] 40)).alloc (Obj.cells #[(.slice Am1 m.regs.length cm1), .int .i64 m.pc, (.slice Am2 m.mem.length cm2), .int .i64 m.save, .bool m.lets, .bool m.waits, .int .i64 m.halt, (.slice Am3 m.ins.length cm3), (.slice Am4 m.outs.length cm4), .int .i64 m.count] 43))).heap.size := by simp
  have hq0 := hide (show (((w.alloc (Obj.cells #[.int .i64 b.pc, .int .i64 b.len, (.slice Ab1 b.ops.length cb1), .int .i64 b.fin, .int .i64 b.x, .int .i64 b.y, .int .i64 b.k] 40)).alloc (Obj.cells #[(.slice Am1 m.regs.length cm1), .int .i64 m.pc, (.slice Am2 m.mem.length cm2), .int .i64 m.save, .bool m.lets, .bool m.waits, .int .i64 m.halt, (.slice Am3 m.ins.length cm3), (.slice Am4 m.outs.length cm4), .int .i64 m.count] 43))).heap.size = w.heap.size + 2 by simp)
  have hBb_0 : Bx ((w.alloc (Obj.cells #[.int .i64 b.pc, .int .i64 b.len, (.slice Ab1 b.ops.length cb1), .int .i64 b.fin, .int .i64 b.x, .int .i64 b.y, .int .i64 b.k] 40)).alloc (Obj.cells #[(.slice Am1 m.regs.length cm1), .int .i64 m.pc, (.slice Am2 m.mem.length cm2), .int .i64 m.save, .bool m.lets, .bool m.waits, .int .i64 m.halt, (.slice Am3 m.ins.length cm3), (.slice Am4 m.outs.length cm4), .int .i64 m.count] 43)) (w.heap.size) [.int .i64 b.pc, .int .i64 b.len, (.slice Ab1 b.ops.length cb1), .int .i64 b.fin, .int .i64 b.x, .int .i64 b.y, .int .i64 b.k] := (by have := (Bx.alloc (Bx.new w #[.int .i64 b.pc, .int .i64 b.len, (.slice Ab1 b.ops.length cb1), .int .i64 b.fin, .int .i64 b.x, .int .i64 b.y, .int .i64 b.k] 40) (by simp) #[(.slice Am1 m.regs.length cm1), .int .i64 m.pc, (.slice Am2 m.mem.length cm2), .int .i64 m.save, .bool m.lets, .bool m.waits, .int .i64 m.halt, (.slice Am3 m.ins.length cm3), (.slice Am4 m.outs.length cm4), .int .i64 m.count] 43); simpa using this)
  have hFb_0 : ∀ oo, (((w.alloc (Obj.cells #[.int .i64 b.pc, .int .i64 b.len, (.slice Ab1 b.ops.length cb1), .int .i64 b.fin, .int .i64 b.x, .int .i64 b.y, .int .i64 b.k] 40)).alloc (Obj.cells #[(.slice Am1 m.regs.length cm1), .int .i64 m.pc, (.slice Am2 m.mem.length cm2), .int .i64 m.save, .bool m.lets, .bool m.waits, .int .i64 m.halt, (.slice Am3 m.ins.length cm3), (.slice Am4 m.outs.length cm4), .int .i64 m.count] 43))).frozen? ⟨w.heap.size, oo, none⟩ = false := fun oo => by simp
  have hBm_0 : Bx ((w.alloc (Obj.cells #[.int .i64 b.pc, .int .i64 b.len, (.slice Ab1 b.ops.length cb1), .int .i64 b.fin, .int .i64 b.x, .int .i64 b.y, .int .i64 b.k] 40)).alloc (Obj.cells #[(.slice Am1 m.regs.length cm1), .int .i64 m.pc, (.slice Am2 m.mem.length cm2), .int .i64 m.save, .bool m.lets, .bool m.waits, .int .i64 m.halt, (.slice Am3 m.ins.length cm3), (.slice Am4 m.outs.length cm4), .int .i64 m.count] 43)) (w.heap.size + 1) [(.slice Am1 m.regs.length cm1), .int .i64 m.pc, (.slice Am2 m.mem.length cm2), .int .i64 m.save, .bool m.lets, .bool m.waits, .int .i64 m.halt, (.slice Am3 m.ins.length cm3), (.slice Am4 m.outs.length cm4), .int .i64 m.count] := (by have := (Bx.new (w.alloc (Obj.cells #[.int .i64 b.pc, .int .i64 b.len, (.slice Ab1 b.ops.length cb1), .int .i64 b.fin, .int .i64 b.x, .int .i64 b.y, .int .i64 b.k] 40)) #[(.slice Am1 m.regs.length cm1), .int .i64 m.pc, (.slice Am2 m.mem.length cm2), .int .i64 m.save, .bool m.lets, .bool m.waits, .int .i64 m.halt, (.slice Am3 m.ins.length cm3), (.slice Am4 m.outs.length cm4), .int .i64 m.count] 43); simpa using this)
  have hFm_0 : ∀ oo, (((w.alloc (Obj.cells #[.int .i64 b.pc, .int .i64 b.len, (.slice Ab1 b.ops.length cb1), .int .i64 b.fin, .int .i64 b.x, .int .i64 b.y, .int .i64 b.k] 40)).alloc (Obj.cells #[(.slice Am1 m.regs.length cm1), .int .i64 m.pc, (.slice Am2 m.mem.length cm2), .int .i64 m.save, .bool m.lets, .bool m.waits, .int .i64 m.halt, (.slice Am3 m.ins.length cm3), (.slice Am4 m.outs.length cm4), .int .i64 m.count] 43))).frozen? ⟨w.heap.size + 1, oo, none⟩ = false := fun oo => by simp
  generalize ((w.alloc (Obj.cells #[.int .i64 b.pc, .int .i64 b.len, (.slice Ab1 b.ops.length cb1), .int .i64 b.fin, .int .i64 b.x, .int .i64 b.y, .int .i64 b.k] 40)).alloc (Obj.cells #[(.slice Am1 m.regs.length cm1), .int .i64 m.pc, (.slice Am2 m.mem.length cm2), .int .i64 m.save, .bool m.lets, .bool m.waits, .int .i64 m.halt, (.slice Am3 m.ins.length cm3), (.slice Am4 m.outs.length cm4), .int .i64 m.count] 43)) = w0 at *
  have yb : w.heap.size < w0.heap.size := by omega
  have xb0 := hBb_0 0 _ rfl
  have xb1 := hBb_0 1 _ rfl
  have xb2 := hBb_0 2 _ rfl
  have xb3 := hBb_0 3 _ rfl
  have xb4 := hBb_0 4 _ rfl
  have xb5 := hBb_0 5 _ rfl
  have xb6 := hBb_0 6 _ rfl
  go_wp2_with fail
  clear xb0 xb1 xb2 xb3 xb4 xb5 xb6 yb
  refine (sz_IrBlock b _ 1048576 _ (hb1.ext (Ext.trans he0 (Ext.auto))) (by omega) (by omega)).mono ?_
  rintro e w1 ⟨rzb, rfl, hr, hy⟩
  have hx1 : Ext w0 w1 := Ext.trans (Ext.auto) hy
  have hs1 := hx1.size
  have he1 : Ext w w1 := he0.trans hx1
  have hBb_1 : Bx w1 (w.heap.size) [.int .i64 b.pc, .int .i64 b.len, (.slice Ab1 b.ops.length cb1), .int .i64 b.fin, .int .i64 b.x, .int .i64 b.y, .int .i64 b.k] := hx1.bx hBb_0 (by omega)
  have hFb_1 : ∀ oo, w1.frozen? ⟨w.heap.size, oo, none⟩ = false := fun oo => (hx1.frozen (by omega)).trans (hFb_0 oo)
  have hBm_1 : Bx w1 (w.heap.size + 1) [(.slice Am1 m.regs.length cm1), .int .i64 m.pc, (.slice Am2 m.mem.length cm2), .int .i64 m.save, .bool m.lets, .bool m.waits, .int .i64 m.halt, (.slice Am3 m.ins.length cm3), (.slice Am4 m.outs.length cm4), .int .i64 m.count] := hx1.bx hBm_0 (by omega)
  have hFm_1 : ∀ oo, w1.frozen? ⟨w.heap.size + 1, oo, none⟩ = false := fun oo => (hx1.frozen (by omega)).trans (hFm_0 oo)
  clear hBb_0 hFb_0 hBm_0 hFm_0
  clear hy
  rcases hr with ⟨hq, hl0⟩ | ⟨hq, hl0⟩
  rotate_left
  · have hz : rzb < 0 := by omega
    clear hq
    go_wp2
    go_ret
    exact ⟨rfl, he1⟩
  have hzb : 0 ≤ rzb := by omega
  have hyb : rzb ≤ 1048576 := by omega
  have nb : Bulk.blk b ≤ 1048576 := by omega
  have mb : ((Bulk.blk b : Nat) : Int) ≤ 1048576 - rzb := by omega
  have HQb := hide hq
  clear hq hl0
  have ym : w.heap.size + 1 < w1.heap.size := by omega
  have xm0 := hBm_1 0 _ rfl
  have xm1 := hBm_1 1 _ rfl
  have xm2 := hBm_1 2 _ rfl
  have xm3 := hBm_1 3 _ rfl
  have xm4 := hBm_1 4 _ rfl
  have xm5 := hBm_1 5 _ rfl
  have xm6 := hBm_1 6 _ rfl
  have xm7 := hBm_1 7 _ rfl
  have xm8 := hBm_1 8 _ rfl
  have xm9 := hBm_1 9 _ rfl
  go_wp2_with fail
  clear xm0 xm1 xm2 xm3 xm4 xm5 xm6 xm7 xm8 xm9 ym
  refine (sz_MchMach m _ _ _ _ rzb _ (hm1.ext (Ext.trans he1 (Ext.auto))) (hm2.ext (Ext.trans he1 (Ext.auto))) (hm3.ext (Ext.trans he1 (Ext.auto))) (hm4.ext (Ext.trans he1 (Ext.auto))) (by omega) (by omega)).mono ?_
  rintro e w2 ⟨rzm, rfl, hr, hy⟩
  have hx2 : Ext w1 w2 := Ext.trans (Ext.auto) hy
  have hs2 := hx2.size
  have he2 : Ext w w2 := he1.trans hx2
  have hBb_2 : Bx w2 (w.heap.size) [.int .i64 b.pc, .int .i64 b.len, (.slice Ab1 b.ops.length cb1), .int .i64 b.fin, .int .i64 b.x, .int .i64 b.y, .int .i64 b.k] := hx2.bx hBb_1 (by omega)
  have hFb_2 : ∀ oo, w2.frozen? ⟨w.heap.size, oo, none⟩ = false := fun oo => (hx2.frozen (by omega)).trans (hFb_1 oo)
  have hBm_2 : Bx w2 (w.heap.size + 1) [(.slice Am1 m.regs.length cm1), .int .i64 m.pc, (.slice Am2 m.mem.length cm2), .int .i64 m.save, .bool m.lets, .bool m.waits, .int .i64 m.halt, (.slice Am3 m.ins.length cm3), (.slice Am4 m.outs.length cm4), .int .i64 m.count] := hx2.bx hBm_1 (by omega)
  have hFm_2 : ∀ oo, w2.frozen? ⟨w.heap.size + 1, oo, none⟩ = false := fun oo => (hx2.frozen (by omega)).trans (hFm_1 oo)
  clear hBb_1 hFb_1 hBm_1 hFm_1
  clear hy
  rcases hr with ⟨hq, hl0⟩ | ⟨hq, hl0⟩
  rotate_left
  · have hz : rzm < 0 := by omega
    clear hq
    go_wp2
    go_ret
    exact ⟨rfl, he2⟩
  have hzm : 0 ≤ rzm := by omega
  have hym : rzm ≤ 1048576 := by omega
  have nm : Bulk.blk m ≤ 1048576 := by omega
  have mm : ((Bulk.blk m : Nat) : Int) ≤ rzb - rzm := by omega
  have HQm := hide hq
  clear hq hl0
  go_upto_region 8 with fail
  go_cut [6, 7] (fun vt6 vt7 wx => ∃ (q_w : Nat) (A_w1 : Option Addr) (c_w1 : Nat) (A_w2 : Option Addr) (c_w2 : Nat) (A_w3 : Option Addr) (c_w3 : Nat) (A_w4 : Option Addr) (c_w4 : Nat) (F_w1 F_w2 F_w3 F_w4 : List Nat), vt6 = .pointer (some ⟨q_w, 0, none⟩) ∧ vt7 = .bool (irRunOk b m) ∧ Ext w2 wx ∧ w2.heap.size ≤ q_w ∧ q_w < wx.heap.size ∧ Bx wx q_w [(.slice A_w1 ((irRun b m).regs).length c_w1), .int .i64 ((irRun b m).pc), (.slice A_w2 ((irRun b m).mem).length c_w2), .int .i64 ((irRun b m).save), .bool (irRun b m).lets, .bool (irRun b m).waits, .int .i64 ((irRun b m).halt), (.slice A_w3 ((irRun b m).ins).length c_w3), (.slice A_w4 ((irRun b m).outs).length c_w4), .int .i64 ((irRun b m).count)] ∧ (∀ oo, wx.frozen? ⟨q_w, oo, none⟩ = false) ∧ OwnSl wx (.slice A_w1 ((irRun b m).regs).length c_w1) ((irRun b m).regs) F_w1 ∧ OwnSl wx (.slice A_w2 ((irRun b m).mem).length c_w2) ((irRun b m).mem) F_w2 ∧ OwnSl wx (.slice A_w3 ((irRun b m).ins).length c_w3) ((irRun b m).ins) F_w3 ∧ OwnSl wx (.slice A_w4 ((irRun b m).outs).length c_w4) ((irRun b m).outs) F_w4 ∧ Fr w2 wx (F_w1 ++ F_w2 ++ F_w3 ++ F_w4))
  · 
    have yb : w.heap.size < w2.heap.size := by omega
    have xb0 := hBb_2 0 _ rfl
    have xb1 := hBb_2 1 _ rfl
    have xb2 := hBb_2 2 _ rfl
    have xb3 := hBb_2 3 _ rfl
    have xb4 := hBb_2 4 _ rfl
    have xb5 := hBb_2 5 _ rfl
    have xb6 := hBb_2 6 _ rfl
    have ym : w.heap.size + 1 < w2.heap.size := by omega
    have xm0 := hBm_2 0 _ rfl
    have xm1 := hBm_2 1 _ rfl
    have xm2 := hBm_2 2 _ rfl
    have xm3 := hBm_2 3 _ rfl
    have xm4 := hBm_2 4 _ rfl
    have xm5 := hBm_2 5 _ rfl
    have xm6 := hBm_2 6 _ rfl
    have xm7 := hBm_2 7 _ rfl
    have xm8 := hBm_2 8 _ rfl
    have xm9 := hBm_2 9 _ rfl
    have hS : ∀ w', Ext w2 w' → ∀ bb oo, bb < w2.heap.size → w'.cell? ⟨bb, oo, none⟩ = w2.cell? ⟨bb, oo, none⟩ := fun w' hx bb oo hb => hx.cell hb
    refine wp_region_plan (fun w' => Ext w2 w') 10 (.float 0 (.float 2 (.fork 1 8 (.fork 3 8 (.fork 4 8 (.float 5 (.float 6 (.float 7 (.chain 8 (.chain 9 (.tail 10)))))) (.chain 4 (.float 5 (.float 6 (.float 7 (.chain 9 (.tail 10))))))) (.chain 3 (.chain 4 (.float 5 (.float 6 (.float 7 (.chain 9 (.tail 10)))))))) (.chain 1 (.chain 3 (.chain 4 (.float 5 (.float 6 (.float 7 (.chain 9 (.tail 10))))))))))) (by kernel_rfl) (by kernel_rfl) (Ext.refl _).drew ?_
    iterate 2 ((refine Plan.float_step (v := ?_) rfl (by rfl) (fun _ _ _ h => h) (fun w' hSw => ?_) ?_; rotate_left; · (go_simp; try with_reducible rfl)); (try simp only [Act.put, List.setIfInBounds_toArray, List.set_cons_zero, List.set_cons_succ]))
    refine Plan.fork_step ?_ ?_
    · 
      refine Plan.chain_step rfl (fun K hK => ?_)
      go_simp
      refine (to_IrBlock b _ _ (hb1.ext (Ext.trans he2 (Ext.auto))) nb).mono ?_
      rintro e w3 ⟨r_pb1, F_pb1, rfl, ho_pb1, hf_pb, hy⟩
      refine hK.out _ _ (Ext.trans (Ext.auto) hy) ?_
      clear hK
      (try simp only [Act.put, List.setIfInBounds_toArray, List.set_cons_zero, List.set_cons_succ])
      have hx3 : Ext w2 w3 := Ext.trans (Ext.auto) hy
      have hs3 := hx3.size
      have he3 : Ext w w3 := he2.trans hx3
      have hBb_3 : Bx w3 (w.heap.size) [.int .i64 b.pc, .int .i64 b.len, (.slice Ab1 b.ops.length cb1), .int .i64 b.fin, .int .i64 b.x, .int .i64 b.y, .int .i64 b.k] := hx3.bx hBb_2 (by omega)
      have hFb_3 : ∀ oo, w3.frozen? ⟨w.heap.size, oo, none⟩ = false := fun oo => (hx3.frozen (by omega)).trans (hFb_2 oo)
      have hBm_3 : Bx w3 (w.heap.size + 1) [(.slice Am1 m.regs.length cm1), .int .i64 m.pc, (.slice Am2 m.mem.length cm2), .int .i64 m.save, .bool m.lets, .bool m.waits, .int .i64 m.halt, (.slice Am3 m.ins.length cm3), (.slice Am4 m.outs.length cm4), .int .i64 m.count] := hx3.bx hBm_2 (by omega)
      have hFm_3 : ∀ oo, w3.frozen? ⟨w.heap.size + 1, oo, none⟩ = false := fun oo => (hx3.frozen (by omega)).trans (hFm_2 oo)
      clear hBb_2 hFb_2 hBm_2 hFm_2
      clear hy
      obtain ⟨A_pb1, c_pb1, rfl, -, -⟩ := ho_pb1.sl.form
      have fr_pb : Fr w2 w3 (F_pb1) := hf_pb.mk1 (by first | exact Nat.le_refl _ | (simp; done)) (Nat.le_refl _)
      clear hf_pb
      refine Plan.fork_step ?_ ?_
      · 
        refine Plan.chain_step rfl (fun K hK => ?_)
        go_simp
        refine (to_MchMach m _ _ _ _ _ (hm1.ext (Ext.trans he3 (Ext.auto))) (hm2.ext (Ext.trans he3 (Ext.auto))) (hm3.ext (Ext.trans he3 (Ext.auto))) (hm4.ext (Ext.trans he3 (Ext.auto))) nm).mono ?_
        rintro e w4 ⟨r_pm1, r_pm2, r_pm3, r_pm4, F_pm1, F_pm2, F_pm3, F_pm4, rfl, ho_pm1, ho_pm2, ho_pm3, ho_pm4, hf_pm, hy⟩
        refine hK.out _ _ (Ext.trans hx3 hy) ?_
        clear hK
        (try simp only [Act.put, List.setIfInBounds_toArray, List.set_cons_zero, List.set_cons_succ])
        have hx4 : Ext w3 w4 := Ext.trans (Ext.auto) hy
        have hs4 := hx4.size
        have he4 : Ext w w4 := he3.trans hx4
        have hBb_4 : Bx w4 (w.heap.size) [.int .i64 b.pc, .int .i64 b.len, (.slice Ab1 b.ops.length cb1), .int .i64 b.fin, .int .i64 b.x, .int .i64 b.y, .int .i64 b.k] := hx4.bx hBb_3 (by omega)
        have hFb_4 : ∀ oo, w4.frozen? ⟨w.heap.size, oo, none⟩ = false := fun oo => (hx4.frozen (by omega)).trans (hFb_3 oo)
        have hBm_4 : Bx w4 (w.heap.size + 1) [(.slice Am1 m.regs.length cm1), .int .i64 m.pc, (.slice Am2 m.mem.length cm2), .int .i64 m.save, .bool m.lets, .bool m.waits, .int .i64 m.halt, (.slice Am3 m.ins.length cm3), (.slice Am4 m.outs.length cm4), .int .i64 m.count] := hx4.bx hBm_3 (by omega)
        have hFm_4 : ∀ oo, w4.frozen? ⟨w.heap.size + 1, oo, none⟩ = false := fun oo => (hx4.frozen (by omega)).trans (hFm_3 oo)
        clear hBb_3 hFb_3 hBm_3 hFm_3
        clear hy
        obtain ⟨A_pm1, c_pm1, rfl, -, -⟩ := ho_pm1.sl.form
        obtain ⟨A_pm2, c_pm2, rfl, -, -⟩ := ho_pm2.sl.form
        obtain ⟨A_pm3, c_pm3, rfl, -, -⟩ := ho_pm3.sl.form
        obtain ⟨A_pm4, c_pm4, rfl, -, -⟩ := ho_pm4.sl.form
        have fr_pm : Fr w3 w4 (F_pm1 ++ F_pm2 ++ F_pm3 ++ F_pm4) := hf_pm.mk1 (by first | exact Nat.le_refl _ | (simp; done)) (Nat.le_refl _)
        clear hf_pm
        refine Plan.fork_step ?_ ?_
        · 
          refine Plan.chain_step rfl (fun K hK => ?_)
          go_simp
          refine (specIrRun_p b m _ _ _ _ _ _ ((OwnSl.up ho_pb1 (fr_pb.mk1 (Nat.le_refl _) (by omega)) hx4).old (fr_pb.mk1 (Nat.le_refl _) (by omega))) ((OwnSl.up ho_pm1 (fr_pm.inl.inl.inl.mk1 (Nat.le_refl _) (by omega)) (Ext.refl _)).old (fr_pm.inl.inl.inl.mk1 (Nat.le_refl _) (by omega))) ((OwnSl.up ho_pm2 (fr_pm.inl.inl.inr.mk1 (Nat.le_refl _) (by omega)) (Ext.refl _)).old (fr_pm.inl.inl.inr.mk1 (Nat.le_refl _) (by omega))) ((OwnSl.up ho_pm3 (fr_pm.inl.inr.mk1 (Nat.le_refl _) (by omega)) (Ext.refl _)).old (fr_pm.inl.inr.mk1 (Nat.le_refl _) (by omega))) ((OwnSl.up ho_pm4 (fr_pm.inr.mk1 (Nat.le_refl _) (by omega)) (Ext.refl _)).old (fr_pm.inr.mk1 (Nat.le_refl _) (by omega))) (by omega) (by omega) (by omega) (by omega) hkb (by omega)).mono ?_
          rintro e w5 ⟨r_w1, r_w2, r_w3, r_w4, F_w1, F_w2, F_w3, F_w4, rfl, ho_w1, ho_w2, ho_w3, ho_w4, hf_w, hy⟩
          refine hK.out _ _ (Ext.trans (Ext.trans hx3 hx4) hy) ?_
          clear hK
          (try simp only [Act.put, List.setIfInBounds_toArray, List.set_cons_zero, List.set_cons_succ])
          have hx5 : Ext w4 w5 := Ext.trans (Ext.auto) hy
          have hs5 := hx5.size
          have he5 : Ext w w5 := he4.trans hx5
          have hBb_5 : Bx w5 (w.heap.size) [.int .i64 b.pc, .int .i64 b.len, (.slice Ab1 b.ops.length cb1), .int .i64 b.fin, .int .i64 b.x, .int .i64 b.y, .int .i64 b.k] := hx5.bx hBb_4 (by omega)
          have hFb_5 : ∀ oo, w5.frozen? ⟨w.heap.size, oo, none⟩ = false := fun oo => (hx5.frozen (by omega)).trans (hFb_4 oo)
          have hBm_5 : Bx w5 (w.heap.size + 1) [(.slice Am1 m.regs.length cm1), .int .i64 m.pc, (.slice Am2 m.mem.length cm2), .int .i64 m.save, .bool m.lets, .bool m.waits, .int .i64 m.halt, (.slice Am3 m.ins.length cm3), (.slice Am4 m.outs.length cm4), .int .i64 m.count] := hx5.bx hBm_4 (by omega)
          have hFm_5 : ∀ oo, w5.frozen? ⟨w.heap.size + 1, oo, none⟩ = false := fun oo => (hx5.frozen (by omega)).trans (hFm_4 oo)
          clear hBb_4 hFb_4 hBm_4 hFm_4
          clear hy
          obtain ⟨A_w1, c_w1, rfl, -, -⟩ := ho_w1.sl.form
          obtain ⟨A_w2, c_w2, rfl, -, -⟩ := ho_w2.sl.form
          obtain ⟨A_w3, c_w3, rfl, -, -⟩ := ho_w3.sl.form
          obtain ⟨A_w4, c_w4, rfl, -, -⟩ := ho_w4.sl.form
          have fr_w : Fr w4 w5 (F_w1 ++ F_w2 ++ F_w3 ++ F_w4) := hf_w.mk1 (by first | exact Nat.le_refl _ | (simp; done)) (Nat.le_refl _)
          clear hf_w
          iterate 3 ((refine Plan.float_step (v := ?_) rfl (by rfl) (fun _ _ _ h => h) (fun w' hSw => ?_) ?_; rotate_left; · (go_simp; try with_reducible rfl)); (try simp only [Act.put, List.setIfInBounds_toArray, List.set_cons_zero, List.set_cons_succ]))
          refine Plan.chain_step rfl (fun K hK => ?_)
          go_simp
          refine hK.out _ _ (Ext.trans (Ext.trans (Ext.trans hx3 hx4) hx5) (show Ext w5 (w5.alloc (.cells #[.slice none 0 0, .int .i64 0, .slice none 0 0, .int .i64 0, .bool false, .bool false, .int .i64 0, .slice none 0 0, .slice none 0 0, .int .i64 0] 46)) from Ext.auto)) ?_
          clear hK
          (try simp only [Act.put, List.setIfInBounds_toArray, List.set_cons_zero, List.set_cons_succ])
          have hyA : Ext w5 (w5.alloc (.cells #[.slice none 0 0, .int .i64 0, .slice none 0 0, .int .i64 0, .bool false, .bool false, .int .i64 0, .slice none 0 0, .slice none 0 0, .int .i64 0] 46)) := Ext.auto
          have hsA : w5.heap.size < (w5.alloc (.cells #[.slice none 0 0, .int .i64 0, .slice none 0 0, .int .i64 0, .bool false, .bool false, .int .i64 0, .slice none 0 0, .slice none 0 0, .int .i64 0] 46)).heap.size := by simp
          have hBA : Bx (w5.alloc (.cells #[.slice none 0 0, .int .i64 0, .slice none 0 0, .int .i64 0, .bool false, .bool false, .int .i64 0, .slice none 0 0, .slice none 0 0, .int .i64 0] 46)) w5.heap.size [.slice none 0 0, .int .i64 0, .slice none 0 0, .int .i64 0, .bool false, .bool false, .int .i64 0, .slice none 0 0, .slice none 0 0, .int .i64 0] := Bx.new w5 #[.slice none 0 0, .int .i64 0, .slice none 0 0, .int .i64 0, .bool false, .bool false, .int .i64 0, .slice none 0 0, .slice none 0 0, .int .i64 0] 46
          have hFA : ∀ oo, (w5.alloc (.cells #[.slice none 0 0, .int .i64 0, .slice none 0 0, .int .i64 0, .bool false, .bool false, .int .i64 0, .slice none 0 0, .slice none 0 0, .int .i64 0] 46)).frozen? ⟨w5.heap.size, oo, none⟩ = false := fz_new w5 #[.slice none 0 0, .int .i64 0, .slice none 0 0, .int .i64 0, .bool false, .bool false, .int .i64 0, .slice none 0 0, .slice none 0 0, .int .i64 0] 46 rfl
          generalize (w5.alloc (.cells #[.slice none 0 0, .int .i64 0, .slice none 0 0, .int .i64 0, .bool false, .bool false, .int .i64 0, .slice none 0 0, .slice none 0 0, .int .i64 0] 46)) = w6 at *
          have hx6 : Ext w5 w6 := Ext.trans (Ext.auto) hyA
          have hs6 := hx6.size
          have he6 : Ext w w6 := he5.trans hx6
          have hBb_6 : Bx w6 (w.heap.size) [.int .i64 b.pc, .int .i64 b.len, (.slice Ab1 b.ops.length cb1), .int .i64 b.fin, .int .i64 b.x, .int .i64 b.y, .int .i64 b.k] := hx6.bx hBb_5 (by omega)
          have hFb_6 : ∀ oo, w6.frozen? ⟨w.heap.size, oo, none⟩ = false := fun oo => (hx6.frozen (by omega)).trans (hFb_5 oo)
          have hBm_6 : Bx w6 (w.heap.size + 1) [(.slice Am1 m.regs.length cm1), .int .i64 m.pc, (.slice Am2 m.mem.length cm2), .int .i64 m.save, .bool m.lets, .bool m.waits, .int .i64 m.halt, (.slice Am3 m.ins.length cm3), (.slice Am4 m.outs.length cm4), .int .i64 m.count] := hx6.bx hBm_5 (by omega)
          have hFm_6 : ∀ oo, w6.frozen? ⟨w.heap.size + 1, oo, none⟩ = false := fun oo => (hx6.frozen (by omega)).trans (hFm_5 oo)
          clear hBb_5 hFb_5 hBm_5 hFm_5
          have hBq_6 := hBA
          have hFq_6 := hFA
          clear hBA hFA hyA
          have yq : w5.heap.size < w6.heap.size := by omega
          have xq0 := hBq_6 0 _ rfl
          have xq1 := hBq_6 1 _ rfl
          have xq2 := hBq_6 2 _ rfl
          have xq3 := hBq_6 3 _ rfl
          have xq4 := hBq_6 4 _ rfl
          have xq5 := hBq_6 5 _ rfl
          have xq6 := hBq_6 6 _ rfl
          have xq7 := hBq_6 7 _ rfl
          have xq8 := hBq_6 8 _ rfl
          have xq9 := hBq_6 9 _ rfl
          have fq := hFq_6
          refine Plan.chain_step rfl (fun K hK => ?_)
          go_simp
          have hcl : Ext w2 w6 := (Ext.trans (Ext.trans (Ext.trans hx3 hx4) hx5) hx6)
          refine hK.out _ _ (Ext.hold hcl) ?_
          clear hK
          (try simp only [Act.put, List.setIfInBounds_toArray, List.set_cons_zero, List.set_cons_succ])
          refine Plan.tail_step ?_
          simp only [List.drop_succ_cons, List.drop_zero]
          clear hS
          go_wp2_with fail
          go_meet
          exact ⟨w5.heap.size, _, _, _, _, _, _, _, _, F_w1, F_w2, F_w3, F_w4, rfl, rfl, Ext.hold hcl, (by omega), (by first | omega | (simp; omega)), hBq_6.store10 rfl _ _ _ _ _ _ _ _ _ _, fz_hold hFq_6, OwnSl.stay (OwnSl.up ho_w1 (fr_w.inl.inl.inl.mk1 (Nat.le_refl _) (by omega)) hx6) (fun z hb => by
              have q := fr_w.inl.inl.inl.2 z hb; have q1 := q.1; have q2 := q.2
              repeat (first | rw [heap_set _ _ _ _ (by show _ ≠ z; omega)] | rw [heap_set _ _ _ _ (by simp; omega)])), OwnSl.stay (OwnSl.up ho_w2 (fr_w.inl.inl.inr.mk1 (Nat.le_refl _) (by omega)) hx6) (fun z hb => by
              have q := fr_w.inl.inl.inr.2 z hb; have q1 := q.1; have q2 := q.2
              repeat (first | rw [heap_set _ _ _ _ (by show _ ≠ z; omega)] | rw [heap_set _ _ _ _ (by simp; omega)])), OwnSl.stay (OwnSl.up ho_w3 (fr_w.inl.inr.mk1 (Nat.le_refl _) (by omega)) hx6) (fun z hb => by
              have q := fr_w.inl.inr.2 z hb; have q1 := q.1; have q2 := q.2
              repeat (first | rw [heap_set _ _ _ _ (by show _ ≠ z; omega)] | rw [heap_set _ _ _ _ (by simp; omega)])), OwnSl.stay (OwnSl.up ho_w4 (fr_w.inr.mk1 (Nat.le_refl _) (by omega)) hx6) (fun z hb => by
              have q := fr_w.inr.2 z hb; have q1 := q.1; have q2 := q.2
              repeat (first | rw [heap_set _ _ _ _ (by show _ ≠ z; omega)] | rw [heap_set _ _ _ _ (by simp; omega)])), fr_w.mk1 (by first | omega | (simp; done) | (simp; omega)) (by first | omega | (simp; done) | (simp; omega))⟩
        · 
          refine Plan.chain_step rfl (fun K hK => ?_)
          go_simp
          refine hK.out _ _ (Ext.trans (Ext.trans hx3 hx4) (show Ext w4 (w4.alloc (.cells #[.slice none 0 0, .int .i64 0, .slice none 0 0, .int .i64 0, .bool false, .bool false, .int .i64 0, .slice none 0 0, .slice none 0 0, .int .i64 0] 46)) from Ext.auto)) ?_
          clear hK
          (try simp only [Act.put, List.setIfInBounds_toArray, List.set_cons_zero, List.set_cons_succ])
          have hyA : Ext w4 (w4.alloc (.cells #[.slice none 0 0, .int .i64 0, .slice none 0 0, .int .i64 0, .bool false, .bool false, .int .i64 0, .slice none 0 0, .slice none 0 0, .int .i64 0] 46)) := Ext.auto
          have hsA : w4.heap.size < (w4.alloc (.cells #[.slice none 0 0, .int .i64 0, .slice none 0 0, .int .i64 0, .bool false, .bool false, .int .i64 0, .slice none 0 0, .slice none 0 0, .int .i64 0] 46)).heap.size := by simp
          have hBA : Bx (w4.alloc (.cells #[.slice none 0 0, .int .i64 0, .slice none 0 0, .int .i64 0, .bool false, .bool false, .int .i64 0, .slice none 0 0, .slice none 0 0, .int .i64 0] 46)) w4.heap.size [.slice none 0 0, .int .i64 0, .slice none 0 0, .int .i64 0, .bool false, .bool false, .int .i64 0, .slice none 0 0, .slice none 0 0, .int .i64 0] := Bx.new w4 #[.slice none 0 0, .int .i64 0, .slice none 0 0, .int .i64 0, .bool false, .bool false, .int .i64 0, .slice none 0 0, .slice none 0 0, .int .i64 0] 46
          have hFA : ∀ oo, (w4.alloc (.cells #[.slice none 0 0, .int .i64 0, .slice none 0 0, .int .i64 0, .bool false, .bool false, .int .i64 0, .slice none 0 0, .slice none 0 0, .int .i64 0] 46)).frozen? ⟨w4.heap.size, oo, none⟩ = false := fz_new w4 #[.slice none 0 0, .int .i64 0, .slice none 0 0, .int .i64 0, .bool false, .bool false, .int .i64 0, .slice none 0 0, .slice none 0 0, .int .i64 0] 46 rfl
          generalize (w4.alloc (.cells #[.slice none 0 0, .int .i64 0, .slice none 0 0, .int .i64 0, .bool false, .bool false, .int .i64 0, .slice none 0 0, .slice none 0 0, .int .i64 0] 46)) = w5 at *
          have hx5 : Ext w4 w5 := Ext.trans (Ext.auto) hyA
          have hs5 := hx5.size
          have he5 : Ext w w5 := he4.trans hx5
          have hBb_5 : Bx w5 (w.heap.size) [.int .i64 b.pc, .int .i64 b.len, (.slice Ab1 b.ops.length cb1), .int .i64 b.fin, .int .i64 b.x, .int .i64 b.y, .int .i64 b.k] := hx5.bx hBb_4 (by omega)
          have hFb_5 : ∀ oo, w5.frozen? ⟨w.heap.size, oo, none⟩ = false := fun oo => (hx5.frozen (by omega)).trans (hFb_4 oo)
          have hBm_5 : Bx w5 (w.heap.size + 1) [(.slice Am1 m.regs.length cm1), .int .i64 m.pc, (.slice Am2 m.mem.length cm2), .int .i64 m.save, .bool m.lets, .bool m.waits, .int .i64 m.halt, (.slice Am3 m.ins.length cm3), (.slice Am4 m.outs.length cm4), .int .i64 m.count] := hx5.bx hBm_4 (by omega)
          have hFm_5 : ∀ oo, w5.frozen? ⟨w.heap.size + 1, oo, none⟩ = false := fun oo => (hx5.frozen (by omega)).trans (hFm_4 oo)
          clear hBb_4 hFb_4 hBm_4 hFm_4
          have hBq_5 := hBA
          have hFq_5 := hFA
          clear hBA hFA hyA
          refine Plan.chain_step rfl (fun K hK => ?_)
          go_simp
          refine (specIrRun_p b m _ _ _ _ _ _ ((OwnSl.up ho_pb1 (fr_pb.mk1 (Nat.le_refl _) (by omega)) (Ext.trans hx4 hx5)).old (fr_pb.mk1 (Nat.le_refl _) (by omega))) ((OwnSl.up ho_pm1 (fr_pm.inl.inl.inl.mk1 (Nat.le_refl _) (by omega)) hx5).old (fr_pm.inl.inl.inl.mk1 (Nat.le_refl _) (by omega))) ((OwnSl.up ho_pm2 (fr_pm.inl.inl.inr.mk1 (Nat.le_refl _) (by omega)) hx5).old (fr_pm.inl.inl.inr.mk1 (Nat.le_refl _) (by omega))) ((OwnSl.up ho_pm3 (fr_pm.inl.inr.mk1 (Nat.le_refl _) (by omega)) hx5).old (fr_pm.inl.inr.mk1 (Nat.le_refl _) (by omega))) ((OwnSl.up ho_pm4 (fr_pm.inr.mk1 (Nat.le_refl _) (by omega)) hx5).old (fr_pm.inr.mk1 (Nat.le_refl _) (by omega))) (by omega) (by omega) (by omega) (by omega) hkb (by omega)).mono ?_
          rintro e w6 ⟨r_w1, r_w2, r_w3, r_w4, F_w1, F_w2, F_w3, F_w4, rfl, ho_w1, ho_w2, ho_w3, ho_w4, hf_w, hy⟩
          refine hK.out _ _ (Ext.trans (Ext.trans (Ext.trans hx3 hx4) hx5) hy) ?_
          clear hK
          (try simp only [Act.put, List.setIfInBounds_toArray, List.set_cons_zero, List.set_cons_succ])
          have hx6 : Ext w5 w6 := Ext.trans (Ext.auto) hy
          have hs6 := hx6.size
          have he6 : Ext w w6 := he5.trans hx6
          have hBb_6 : Bx w6 (w.heap.size) [.int .i64 b.pc, .int .i64 b.len, (.slice Ab1 b.ops.length cb1), .int .i64 b.fin, .int .i64 b.x, .int .i64 b.y, .int .i64 b.k] := hx6.bx hBb_5 (by omega)
          have hFb_6 : ∀ oo, w6.frozen? ⟨w.heap.size, oo, none⟩ = false := fun oo => (hx6.frozen (by omega)).trans (hFb_5 oo)
          have hBm_6 : Bx w6 (w.heap.size + 1) [(.slice Am1 m.regs.length cm1), .int .i64 m.pc, (.slice Am2 m.mem.length cm2), .int .i64 m.save, .bool m.lets, .bool m.waits, .int .i64 m.halt, (.slice Am3 m.ins.length cm3), (.slice Am4 m.outs.length cm4), .int .i64 m.count] := hx6.bx hBm_5 (by omega)
          have hFm_6 : ∀ oo, w6.frozen? ⟨w.heap.size + 1, oo, none⟩ = false := fun oo => (hx6.frozen (by omega)).trans (hFm_5 oo)
          have hBq_6 : Bx w6 (w4.heap.size) [.slice none 0 0, .int .i64 0, .slice none 0 0, .int .i64 0, .bool false, .bool false, .int .i64 0, .slice none 0 0, .slice none 0 0, .int .i64 0] := hx6.bx hBq_5 (by omega)
          have hFq_6 : ∀ oo, w6.frozen? ⟨w4.heap.size, oo, none⟩ = false := fun oo => (hx6.frozen (by omega)).trans (hFq_5 oo)
          clear hBb_5 hFb_5 hBm_5 hFm_5 hBq_5 hFq_5
          clear hy
          obtain ⟨A_w1, c_w1, rfl, -, -⟩ := ho_w1.sl.form
          obtain ⟨A_w2, c_w2, rfl, -, -⟩ := ho_w2.sl.form
          obtain ⟨A_w3, c_w3, rfl, -, -⟩ := ho_w3.sl.form
          obtain ⟨A_w4, c_w4, rfl, -, -⟩ := ho_w4.sl.form
          have fr_w : Fr w5 w6 (F_w1 ++ F_w2 ++ F_w3 ++ F_w4) := hf_w.mk1 (by first | exact Nat.le_refl _ | (simp; done)) (Nat.le_refl _)
          clear hf_w
          iterate 3 ((refine Plan.float_step (v := ?_) rfl (by rfl) (fun _ _ _ h => h) (fun w' hSw => ?_) ?_; rotate_left; · (go_simp; try with_reducible rfl)); (try simp only [Act.put, List.setIfInBounds_toArray, List.set_cons_zero, List.set_cons_succ]))
          have yq : w4.heap.size < w6.heap.size := by omega
          have xq0 := hBq_6 0 _ rfl
          have xq1 := hBq_6 1 _ rfl
          have xq2 := hBq_6 2 _ rfl
          have xq3 := hBq_6 3 _ rfl
          have xq4 := hBq_6 4 _ rfl
          have xq5 := hBq_6 5 _ rfl
          have xq6 := hBq_6 6 _ rfl
          have xq7 := hBq_6 7 _ rfl
          have xq8 := hBq_6 8 _ rfl
          have xq9 := hBq_6 9 _ rfl
          have fq := hFq_6
          refine Plan.chain_step rfl (fun K hK => ?_)
          go_simp
          have hcl : Ext w2 w6 := (Ext.trans (Ext.trans (Ext.trans hx3 hx4) hx5) hx6)
          refine hK.out _ _ (Ext.hold hcl) ?_
          clear hK
          (try simp only [Act.put, List.setIfInBounds_toArray, List.set_cons_zero, List.set_cons_succ])
          refine Plan.tail_step ?_
          simp only [List.drop_succ_cons, List.drop_zero]
          clear hS
          go_wp2_with fail
          go_meet
          exact ⟨w4.heap.size, _, _, _, _, _, _, _, _, F_w1, F_w2, F_w3, F_w4, rfl, rfl, Ext.hold hcl, (by omega), (by first | omega | (simp; omega)), hBq_6.store10 rfl _ _ _ _ _ _ _ _ _ _, fz_hold hFq_6, OwnSl.stay (OwnSl.up ho_w1 (fr_w.inl.inl.inl.mk1 (Nat.le_refl _) (by omega)) (Ext.refl _)) (fun z hb => by
              have q := fr_w.inl.inl.inl.2 z hb; have q1 := q.1; have q2 := q.2
              repeat (first | rw [heap_set _ _ _ _ (by show _ ≠ z; omega)] | rw [heap_set _ _ _ _ (by simp; omega)])), OwnSl.stay (OwnSl.up ho_w2 (fr_w.inl.inl.inr.mk1 (Nat.le_refl _) (by omega)) (Ext.refl _)) (fun z hb => by
              have q := fr_w.inl.inl.inr.2 z hb; have q1 := q.1; have q2 := q.2
              repeat (first | rw [heap_set _ _ _ _ (by show _ ≠ z; omega)] | rw [heap_set _ _ _ _ (by simp; omega)])), OwnSl.stay (OwnSl.up ho_w3 (fr_w.inl.inr.mk1 (Nat.le_refl _) (by omega)) (Ext.refl _)) (fun z hb => by
              have q := fr_w.inl.inr.2 z hb; have q1 := q.1; have q2 := q.2
              repeat (first | rw [heap_set _ _ _ _ (by show _ ≠ z; omega)] | rw [heap_set _ _ _ _ (by simp; omega)])), OwnSl.stay (OwnSl.up ho_w4 (fr_w.inr.mk1 (Nat.le_refl _) (by omega)) (Ext.refl _)) (fun z hb => by
              have q := fr_w.inr.2 z hb; have q1 := q.1; have q2 := q.2
              repeat (first | rw [heap_set _ _ _ _ (by show _ ≠ z; omega)] | rw [heap_set _ _ _ _ (by simp; omega)])), fr_w.mk1 (by first | omega | (simp; done) | (simp; omega)) (by first | omega | (simp; done) | (simp; omega))⟩
      · 
        refine Plan.chain_step rfl (fun K hK => ?_)
        go_simp
        refine hK.out _ _ (Ext.trans hx3 (show Ext w3 (w3.alloc (.cells #[.slice none 0 0, .int .i64 0, .slice none 0 0, .int .i64 0, .bool false, .bool false, .int .i64 0, .slice none 0 0, .slice none 0 0, .int .i64 0] 46)) from Ext.auto)) ?_
        clear hK
        (try simp only [Act.put, List.setIfInBounds_toArray, List.set_cons_zero, List.set_cons_succ])
        have hyA : Ext w3 (w3.alloc (.cells #[.slice none 0 0, .int .i64 0, .slice none 0 0, .int .i64 0, .bool false, .bool false, .int .i64 0, .slice none 0 0, .slice none 0 0, .int .i64 0] 46)) := Ext.auto
        have hsA : w3.heap.size < (w3.alloc (.cells #[.slice none 0 0, .int .i64 0, .slice none 0 0, .int .i64 0, .bool false, .bool false, .int .i64 0, .slice none 0 0, .slice none 0 0, .int .i64 0] 46)).heap.size := by simp
        have hBA : Bx (w3.alloc (.cells #[.slice none 0 0, .int .i64 0, .slice none 0 0, .int .i64 0, .bool false, .bool false, .int .i64 0, .slice none 0 0, .slice none 0 0, .int .i64 0] 46)) w3.heap.size [.slice none 0 0, .int .i64 0, .slice none 0 0, .int .i64 0, .bool false, .bool false, .int .i64 0, .slice none 0 0, .slice none 0 0, .int .i64 0] := Bx.new w3 #[.slice none 0 0, .int .i64 0, .slice none 0 0, .int .i64 0, .bool false, .bool false, .int .i64 0, .slice none 0 0, .slice none 0 0, .int .i64 0] 46
        have hFA : ∀ oo, (w3.alloc (.cells #[.slice none 0 0, .int .i64 0, .slice none 0 0, .int .i64 0, .bool false, .bool false, .int .i64 0, .slice none 0 0, .slice none 0 0, .int .i64 0] 46)).frozen? ⟨w3.heap.size, oo, none⟩ = false := fz_new w3 #[.slice none 0 0, .int .i64 0, .slice none 0 0, .int .i64 0, .bool false, .bool false, .int .i64 0, .slice none 0 0, .slice none 0 0, .int .i64 0] 46 rfl
        generalize (w3.alloc (.cells #[.slice none 0 0, .int .i64 0, .slice none 0 0, .int .i64 0, .bool false, .bool false, .int .i64 0, .slice none 0 0, .slice none 0 0, .int .i64 0] 46)) = w4 at *
        have hx4 : Ext w3 w4 := Ext.trans (Ext.auto) hyA
        have hs4 := hx4.size
        have he4 : Ext w w4 := he3.trans hx4
        have hBb_4 : Bx w4 (w.heap.size) [.int .i64 b.pc, .int .i64 b.len, (.slice Ab1 b.ops.length cb1), .int .i64 b.fin, .int .i64 b.x, .int .i64 b.y, .int .i64 b.k] := hx4.bx hBb_3 (by omega)
        have hFb_4 : ∀ oo, w4.frozen? ⟨w.heap.size, oo, none⟩ = false := fun oo => (hx4.frozen (by omega)).trans (hFb_3 oo)
        have hBm_4 : Bx w4 (w.heap.size + 1) [(.slice Am1 m.regs.length cm1), .int .i64 m.pc, (.slice Am2 m.mem.length cm2), .int .i64 m.save, .bool m.lets, .bool m.waits, .int .i64 m.halt, (.slice Am3 m.ins.length cm3), (.slice Am4 m.outs.length cm4), .int .i64 m.count] := hx4.bx hBm_3 (by omega)
        have hFm_4 : ∀ oo, w4.frozen? ⟨w.heap.size + 1, oo, none⟩ = false := fun oo => (hx4.frozen (by omega)).trans (hFm_3 oo)
        clear hBb_3 hFb_3 hBm_3 hFm_3
        have hBq_4 := hBA
        have hFq_4 := hFA
        clear hBA hFA hyA
        refine Plan.chain_step rfl (fun K hK => ?_)
        go_simp
        refine (to_MchMach m _ _ _ _ _ (hm1.ext (Ext.trans he4 (Ext.auto))) (hm2.ext (Ext.trans he4 (Ext.auto))) (hm3.ext (Ext.trans he4 (Ext.auto))) (hm4.ext (Ext.trans he4 (Ext.auto))) nm).mono ?_
        rintro e w5 ⟨r_pm1, r_pm2, r_pm3, r_pm4, F_pm1, F_pm2, F_pm3, F_pm4, rfl, ho_pm1, ho_pm2, ho_pm3, ho_pm4, hf_pm, hy⟩
        refine hK.out _ _ (Ext.trans (Ext.trans hx3 hx4) hy) ?_
        clear hK
        (try simp only [Act.put, List.setIfInBounds_toArray, List.set_cons_zero, List.set_cons_succ])
        have hx5 : Ext w4 w5 := Ext.trans (Ext.auto) hy
        have hs5 := hx5.size
        have he5 : Ext w w5 := he4.trans hx5
        have hBb_5 : Bx w5 (w.heap.size) [.int .i64 b.pc, .int .i64 b.len, (.slice Ab1 b.ops.length cb1), .int .i64 b.fin, .int .i64 b.x, .int .i64 b.y, .int .i64 b.k] := hx5.bx hBb_4 (by omega)
        have hFb_5 : ∀ oo, w5.frozen? ⟨w.heap.size, oo, none⟩ = false := fun oo => (hx5.frozen (by omega)).trans (hFb_4 oo)
        have hBm_5 : Bx w5 (w.heap.size + 1) [(.slice Am1 m.regs.length cm1), .int .i64 m.pc, (.slice Am2 m.mem.length cm2), .int .i64 m.save, .bool m.lets, .bool m.waits, .int .i64 m.halt, (.slice Am3 m.ins.length cm3), (.slice Am4 m.outs.length cm4), .int .i64 m.count] := hx5.bx hBm_4 (by omega)
        have hFm_5 : ∀ oo, w5.frozen? ⟨w.heap.size + 1, oo, none⟩ = false := fun oo => (hx5.frozen (by omega)).trans (hFm_4 oo)
        have hBq_5 : Bx w5 (w3.heap.size) [.slice none 0 0, .int .i64 0, .slice none 0 0, .int .i64 0, .bool false, .bool false, .int .i64 0, .slice none 0 0, .slice none 0 0, .int .i64 0] := hx5.bx hBq_4 (by omega)
        have hFq_5 : ∀ oo, w5.frozen? ⟨w3.heap.size, oo, none⟩ = false := fun oo => (hx5.frozen (by omega)).trans (hFq_4 oo)
        clear hBb_4 hFb_4 hBm_4 hFm_4 hBq_4 hFq_4
        clear hy
        obtain ⟨A_pm1, c_pm1, rfl, -, -⟩ := ho_pm1.sl.form
        obtain ⟨A_pm2, c_pm2, rfl, -, -⟩ := ho_pm2.sl.form
        obtain ⟨A_pm3, c_pm3, rfl, -, -⟩ := ho_pm3.sl.form
        obtain ⟨A_pm4, c_pm4, rfl, -, -⟩ := ho_pm4.sl.form
        have fr_pm : Fr w4 w5 (F_pm1 ++ F_pm2 ++ F_pm3 ++ F_pm4) := hf_pm.mk1 (by first | exact Nat.le_refl _ | (simp; done)) (Nat.le_refl _)
        clear hf_pm
        refine Plan.chain_step rfl (fun K hK => ?_)
        go_simp
        refine (specIrRun_p b m _ _ _ _ _ _ ((OwnSl.up ho_pb1 (fr_pb.mk1 (Nat.le_refl _) (by omega)) (Ext.trans hx4 hx5)).old (fr_pb.mk1 (Nat.le_refl _) (by omega))) ((OwnSl.up ho_pm1 (fr_pm.inl.inl.inl.mk1 (Nat.le_refl _) (by omega)) (Ext.refl _)).old (fr_pm.inl.inl.inl.mk1 (Nat.le_refl _) (by omega))) ((OwnSl.up ho_pm2 (fr_pm.inl.inl.inr.mk1 (Nat.le_refl _) (by omega)) (Ext.refl _)).old (fr_pm.inl.inl.inr.mk1 (Nat.le_refl _) (by omega))) ((OwnSl.up ho_pm3 (fr_pm.inl.inr.mk1 (Nat.le_refl _) (by omega)) (Ext.refl _)).old (fr_pm.inl.inr.mk1 (Nat.le_refl _) (by omega))) ((OwnSl.up ho_pm4 (fr_pm.inr.mk1 (Nat.le_refl _) (by omega)) (Ext.refl _)).old (fr_pm.inr.mk1 (Nat.le_refl _) (by omega))) (by omega) (by omega) (by omega) (by omega) hkb (by omega)).mono ?_
        rintro e w6 ⟨r_w1, r_w2, r_w3, r_w4, F_w1, F_w2, F_w3, F_w4, rfl, ho_w1, ho_w2, ho_w3, ho_w4, hf_w, hy⟩
        refine hK.out _ _ (Ext.trans (Ext.trans (Ext.trans hx3 hx4) hx5) hy) ?_
        clear hK
        (try simp only [Act.put, List.setIfInBounds_toArray, List.set_cons_zero, List.set_cons_succ])
        have hx6 : Ext w5 w6 := Ext.trans (Ext.auto) hy
        have hs6 := hx6.size
        have he6 : Ext w w6 := he5.trans hx6
        have hBb_6 : Bx w6 (w.heap.size) [.int .i64 b.pc, .int .i64 b.len, (.slice Ab1 b.ops.length cb1), .int .i64 b.fin, .int .i64 b.x, .int .i64 b.y, .int .i64 b.k] := hx6.bx hBb_5 (by omega)
        have hFb_6 : ∀ oo, w6.frozen? ⟨w.heap.size, oo, none⟩ = false := fun oo => (hx6.frozen (by omega)).trans (hFb_5 oo)
        have hBm_6 : Bx w6 (w.heap.size + 1) [(.slice Am1 m.regs.length cm1), .int .i64 m.pc, (.slice Am2 m.mem.length cm2), .int .i64 m.save, .bool m.lets, .bool m.waits, .int .i64 m.halt, (.slice Am3 m.ins.length cm3), (.slice Am4 m.outs.length cm4), .int .i64 m.count] := hx6.bx hBm_5 (by omega)
        have hFm_6 : ∀ oo, w6.frozen? ⟨w.heap.size + 1, oo, none⟩ = false := fun oo => (hx6.frozen (by omega)).trans (hFm_5 oo)
        have hBq_6 : Bx w6 (w3.heap.size) [.slice none 0 0, .int .i64 0, .slice none 0 0, .int .i64 0, .bool false, .bool false, .int .i64 0, .slice none 0 0, .slice none 0 0, .int .i64 0] := hx6.bx hBq_5 (by omega)
        have hFq_6 : ∀ oo, w6.frozen? ⟨w3.heap.size, oo, none⟩ = false := fun oo => (hx6.frozen (by omega)).trans (hFq_5 oo)
        clear hBb_5 hFb_5 hBm_5 hFm_5 hBq_5 hFq_5
        clear hy
        obtain ⟨A_w1, c_w1, rfl, -, -⟩ := ho_w1.sl.form
        obtain ⟨A_w2, c_w2, rfl, -, -⟩ := ho_w2.sl.form
        obtain ⟨A_w3, c_w3, rfl, -, -⟩ := ho_w3.sl.form
        obtain ⟨A_w4, c_w4, rfl, -, -⟩ := ho_w4.sl.form
        have fr_w : Fr w5 w6 (F_w1 ++ F_w2 ++ F_w3 ++ F_w4) := hf_w.mk1 (by first | exact Nat.le_refl _ | (simp; done)) (Nat.le_refl _)
        clear hf_w
        iterate 3 ((refine Plan.float_step (v := ?_) rfl (by rfl) (fun _ _ _ h => h) (fun w' hSw => ?_) ?_; rotate_left; · (go_simp; try with_reducible rfl)); (try simp only [Act.put, List.setIfInBounds_toArray, List.set_cons_zero, List.set_cons_succ]))
        have yq : w3.heap.size < w6.heap.size := by omega
        have xq0 := hBq_6 0 _ rfl
        have xq1 := hBq_6 1 _ rfl
        have xq2 := hBq_6 2 _ rfl
        have xq3 := hBq_6 3 _ rfl
        have xq4 := hBq_6 4 _ rfl
        have xq5 := hBq_6 5 _ rfl
        have xq6 := hBq_6 6 _ rfl
        have xq7 := hBq_6 7 _ rfl
        have xq8 := hBq_6 8 _ rfl
        have xq9 := hBq_6 9 _ rfl
        have fq := hFq_6
        refine Plan.chain_step rfl (fun K hK => ?_)
        go_simp
        have hcl : Ext w2 w6 := (Ext.trans (Ext.trans (Ext.trans hx3 hx4) hx5) hx6)
        refine hK.out _ _ (Ext.hold hcl) ?_
        clear hK
        (try simp only [Act.put, List.setIfInBounds_toArray, List.set_cons_zero, List.set_cons_succ])
        refine Plan.tail_step ?_
        simp only [List.drop_succ_cons, List.drop_zero]
        clear hS
        go_wp2_with fail
        go_meet
        exact ⟨w3.heap.size, _, _, _, _, _, _, _, _, F_w1, F_w2, F_w3, F_w4, rfl, rfl, Ext.hold hcl, (by omega), (by first | omega | (simp; omega)), hBq_6.store10 rfl _ _ _ _ _ _ _ _ _ _, fz_hold hFq_6, OwnSl.stay (OwnSl.up ho_w1 (fr_w.inl.inl.inl.mk1 (Nat.le_refl _) (by omega)) (Ext.refl _)) (fun z hb => by
            have q := fr_w.inl.inl.inl.2 z hb; have q1 := q.1; have q2 := q.2
            repeat (first | rw [heap_set _ _ _ _ (by show _ ≠ z; omega)] | rw [heap_set _ _ _ _ (by simp; omega)])), OwnSl.stay (OwnSl.up ho_w2 (fr_w.inl.inl.inr.mk1 (Nat.le_refl _) (by omega)) (Ext.refl _)) (fun z hb => by
            have q := fr_w.inl.inl.inr.2 z hb; have q1 := q.1; have q2 := q.2
            repeat (first | rw [heap_set _ _ _ _ (by show _ ≠ z; omega)] | rw [heap_set _ _ _ _ (by simp; omega)])), OwnSl.stay (OwnSl.up ho_w3 (fr_w.inl.inr.mk1 (Nat.le_refl _) (by omega)) (Ext.refl _)) (fun z hb => by
            have q := fr_w.inl.inr.2 z hb; have q1 := q.1; have q2 := q.2
            repeat (first | rw [heap_set _ _ _ _ (by show _ ≠ z; omega)] | rw [heap_set _ _ _ _ (by simp; omega)])), OwnSl.stay (OwnSl.up ho_w4 (fr_w.inr.mk1 (Nat.le_refl _) (by omega)) (Ext.refl _)) (fun z hb => by
            have q := fr_w.inr.2 z hb; have q1 := q.1; have q2 := q.2
            repeat (first | rw [heap_set _ _ _ _ (by show _ ≠ z; omega)] | rw [heap_set _ _ _ _ (by simp; omega)])), fr_w.mk1 (by first | omega | (simp; done) | (simp; omega)) (by first | omega | (simp; done) | (simp; omega))⟩
    · 
      refine Plan.chain_step rfl (fun K hK => ?_)
      go_simp
      refine hK.out _ _ (Ext.trans (Ext.refl _) (show Ext w2 (w2.alloc (.cells #[.slice none 0 0, .int .i64 0, .slice none 0 0, .int .i64 0, .bool false, .bool false, .int .i64 0, .slice none 0 0, .slice none 0 0, .int .i64 0] 46)).drew from Ext.auto)) ?_
      clear hK
      (try simp only [Act.put, List.setIfInBounds_toArray, List.set_cons_zero, List.set_cons_succ])
      have hyA : Ext w2 (w2.alloc (.cells #[.slice none 0 0, .int .i64 0, .slice none 0 0, .int .i64 0, .bool false, .bool false, .int .i64 0, .slice none 0 0, .slice none 0 0, .int .i64 0] 46)).drew := Ext.auto
      have hsA : w2.heap.size < (w2.alloc (.cells #[.slice none 0 0, .int .i64 0, .slice none 0 0, .int .i64 0, .bool false, .bool false, .int .i64 0, .slice none 0 0, .slice none 0 0, .int .i64 0] 46)).drew.heap.size := by simp
      have hBA : Bx (w2.alloc (.cells #[.slice none 0 0, .int .i64 0, .slice none 0 0, .int .i64 0, .bool false, .bool false, .int .i64 0, .slice none 0 0, .slice none 0 0, .int .i64 0] 46)).drew w2.heap.size [.slice none 0 0, .int .i64 0, .slice none 0 0, .int .i64 0, .bool false, .bool false, .int .i64 0, .slice none 0 0, .slice none 0 0, .int .i64 0] := Bx.new w2 #[.slice none 0 0, .int .i64 0, .slice none 0 0, .int .i64 0, .bool false, .bool false, .int .i64 0, .slice none 0 0, .slice none 0 0, .int .i64 0] 46
      have hFA : ∀ oo, (w2.alloc (.cells #[.slice none 0 0, .int .i64 0, .slice none 0 0, .int .i64 0, .bool false, .bool false, .int .i64 0, .slice none 0 0, .slice none 0 0, .int .i64 0] 46)).drew.frozen? ⟨w2.heap.size, oo, none⟩ = false := fz_new w2 #[.slice none 0 0, .int .i64 0, .slice none 0 0, .int .i64 0, .bool false, .bool false, .int .i64 0, .slice none 0 0, .slice none 0 0, .int .i64 0] 46 rfl
      generalize (w2.alloc (.cells #[.slice none 0 0, .int .i64 0, .slice none 0 0, .int .i64 0, .bool false, .bool false, .int .i64 0, .slice none 0 0, .slice none 0 0, .int .i64 0] 46)).drew = w3 at *
      have hx3 : Ext w2 w3 := Ext.trans (Ext.auto) hyA
      have hs3 := hx3.size
      have he3 : Ext w w3 := he2.trans hx3
      have hBb_3 : Bx w3 (w.heap.size) [.int .i64 b.pc, .int .i64 b.len, (.slice Ab1 b.ops.length cb1), .int .i64 b.fin, .int .i64 b.x, .int .i64 b.y, .int .i64 b.k] := hx3.bx hBb_2 (by omega)
      have hFb_3 : ∀ oo, w3.frozen? ⟨w.heap.size, oo, none⟩ = false := fun oo => (hx3.frozen (by omega)).trans (hFb_2 oo)
      have hBm_3 : Bx w3 (w.heap.size + 1) [(.slice Am1 m.regs.length cm1), .int .i64 m.pc, (.slice Am2 m.mem.length cm2), .int .i64 m.save, .bool m.lets, .bool m.waits, .int .i64 m.halt, (.slice Am3 m.ins.length cm3), (.slice Am4 m.outs.length cm4), .int .i64 m.count] := hx3.bx hBm_2 (by omega)
      have hFm_3 : ∀ oo, w3.frozen? ⟨w.heap.size + 1, oo, none⟩ = false := fun oo => (hx3.frozen (by omega)).trans (hFm_2 oo)
      clear hBb_2 hFb_2 hBm_2 hFm_2
      have hBq_3 := hBA
      have hFq_3 := hFA
      clear hBA hFA hyA
      refine Plan.chain_step rfl (fun K hK => ?_)
      go_simp
      refine (to_IrBlock b _ _ (hb1.ext (Ext.trans he3 (Ext.auto))) nb).mono ?_
      rintro e w4 ⟨r_pb1, F_pb1, rfl, ho_pb1, hf_pb, hy⟩
      refine hK.out _ _ (Ext.trans hx3 hy) ?_
      clear hK
      (try simp only [Act.put, List.setIfInBounds_toArray, List.set_cons_zero, List.set_cons_succ])
      have hx4 : Ext w3 w4 := Ext.trans (Ext.auto) hy
      have hs4 := hx4.size
      have he4 : Ext w w4 := he3.trans hx4
      have hBb_4 : Bx w4 (w.heap.size) [.int .i64 b.pc, .int .i64 b.len, (.slice Ab1 b.ops.length cb1), .int .i64 b.fin, .int .i64 b.x, .int .i64 b.y, .int .i64 b.k] := hx4.bx hBb_3 (by omega)
      have hFb_4 : ∀ oo, w4.frozen? ⟨w.heap.size, oo, none⟩ = false := fun oo => (hx4.frozen (by omega)).trans (hFb_3 oo)
      have hBm_4 : Bx w4 (w.heap.size + 1) [(.slice Am1 m.regs.length cm1), .int .i64 m.pc, (.slice Am2 m.mem.length cm2), .int .i64 m.save, .bool m.lets, .bool m.waits, .int .i64 m.halt, (.slice Am3 m.ins.length cm3), (.slice Am4 m.outs.length cm4), .int .i64 m.count] := hx4.bx hBm_3 (by omega)
      have hFm_4 : ∀ oo, w4.frozen? ⟨w.heap.size + 1, oo, none⟩ = false := fun oo => (hx4.frozen (by omega)).trans (hFm_3 oo)
      have hBq_4 : Bx w4 (w2.heap.size) [.slice none 0 0, .int .i64 0, .slice none 0 0, .int .i64 0, .bool false, .bool false, .int .i64 0, .slice none 0 0, .slice none 0 0, .int .i64 0] := hx4.bx hBq_3 (by omega)
      have hFq_4 : ∀ oo, w4.frozen? ⟨w2.heap.size, oo, none⟩ = false := fun oo => (hx4.frozen (by omega)).trans (hFq_3 oo)
      clear hBb_3 hFb_3 hBm_3 hFm_3 hBq_3 hFq_3
      clear hy
      obtain ⟨A_pb1, c_pb1, rfl, -, -⟩ := ho_pb1.sl.form
      have fr_pb : Fr w3 w4 (F_pb1) := hf_pb.mk1 (by first | exact Nat.le_refl _ | (simp; done)) (Nat.le_refl _)
      clear hf_pb
      refine Plan.chain_step rfl (fun K hK => ?_)
      go_simp
      refine (to_MchMach m _ _ _ _ _ (hm1.ext (Ext.trans he4 (Ext.auto))) (hm2.ext (Ext.trans he4 (Ext.auto))) (hm3.ext (Ext.trans he4 (Ext.auto))) (hm4.ext (Ext.trans he4 (Ext.auto))) nm).mono ?_
      rintro e w5 ⟨r_pm1, r_pm2, r_pm3, r_pm4, F_pm1, F_pm2, F_pm3, F_pm4, rfl, ho_pm1, ho_pm2, ho_pm3, ho_pm4, hf_pm, hy⟩
      refine hK.out _ _ (Ext.trans (Ext.trans hx3 hx4) hy) ?_
      clear hK
      (try simp only [Act.put, List.setIfInBounds_toArray, List.set_cons_zero, List.set_cons_succ])
      have hx5 : Ext w4 w5 := Ext.trans (Ext.auto) hy
      have hs5 := hx5.size
      have he5 : Ext w w5 := he4.trans hx5
      have hBb_5 : Bx w5 (w.heap.size) [.int .i64 b.pc, .int .i64 b.len, (.slice Ab1 b.ops.length cb1), .int .i64 b.fin, .int .i64 b.x, .int .i64 b.y, .int .i64 b.k] := hx5.bx hBb_4 (by omega)
      have hFb_5 : ∀ oo, w5.frozen? ⟨w.heap.size, oo, none⟩ = false := fun oo => (hx5.frozen (by omega)).trans (hFb_4 oo)
      have hBm_5 : Bx w5 (w.heap.size + 1) [(.slice Am1 m.regs.length cm1), .int .i64 m.pc, (.slice Am2 m.mem.length cm2), .int .i64 m.save, .bool m.lets, .bool m.waits, .int .i64 m.halt, (.slice Am3 m.ins.length cm3), (.slice Am4 m.outs.length cm4), .int .i64 m.count] := hx5.bx hBm_4 (by omega)
      have hFm_5 : ∀ oo, w5.frozen? ⟨w.heap.size + 1, oo, none⟩ = false := fun oo => (hx5.frozen (by omega)).trans (hFm_4 oo)
      have hBq_5 : Bx w5 (w2.heap.size) [.slice none 0 0, .int .i64 0, .slice none 0 0, .int .i64 0, .bool false, .bool false, .int .i64 0, .slice none 0 0, .slice none 0 0, .int .i64 0] := hx5.bx hBq_4 (by omega)
      have hFq_5 : ∀ oo, w5.frozen? ⟨w2.heap.size, oo, none⟩ = false := fun oo => (hx5.frozen (by omega)).trans (hFq_4 oo)
      clear hBb_4 hFb_4 hBm_4 hFm_4 hBq_4 hFq_4
      clear hy
      obtain ⟨A_pm1, c_pm1, rfl, -, -⟩ := ho_pm1.sl.form
      obtain ⟨A_pm2, c_pm2, rfl, -, -⟩ := ho_pm2.sl.form
      obtain ⟨A_pm3, c_pm3, rfl, -, -⟩ := ho_pm3.sl.form
      obtain ⟨A_pm4, c_pm4, rfl, -, -⟩ := ho_pm4.sl.form
      have fr_pm : Fr w4 w5 (F_pm1 ++ F_pm2 ++ F_pm3 ++ F_pm4) := hf_pm.mk1 (by first | exact Nat.le_refl _ | (simp; done)) (Nat.le_refl _)
      clear hf_pm
      refine Plan.chain_step rfl (fun K hK => ?_)
      go_simp
      refine (specIrRun_p b m _ _ _ _ _ _ ((OwnSl.up ho_pb1 (fr_pb.mk1 (Nat.le_refl _) (by omega)) hx5).old (fr_pb.mk1 (Nat.le_refl _) (by omega))) ((OwnSl.up ho_pm1 (fr_pm.inl.inl.inl.mk1 (Nat.le_refl _) (by omega)) (Ext.refl _)).old (fr_pm.inl.inl.inl.mk1 (Nat.le_refl _) (by omega))) ((OwnSl.up ho_pm2 (fr_pm.inl.inl.inr.mk1 (Nat.le_refl _) (by omega)) (Ext.refl _)).old (fr_pm.inl.inl.inr.mk1 (Nat.le_refl _) (by omega))) ((OwnSl.up ho_pm3 (fr_pm.inl.inr.mk1 (Nat.le_refl _) (by omega)) (Ext.refl _)).old (fr_pm.inl.inr.mk1 (Nat.le_refl _) (by omega))) ((OwnSl.up ho_pm4 (fr_pm.inr.mk1 (Nat.le_refl _) (by omega)) (Ext.refl _)).old (fr_pm.inr.mk1 (Nat.le_refl _) (by omega))) (by omega) (by omega) (by omega) (by omega) hkb (by omega)).mono ?_
      rintro e w6 ⟨r_w1, r_w2, r_w3, r_w4, F_w1, F_w2, F_w3, F_w4, rfl, ho_w1, ho_w2, ho_w3, ho_w4, hf_w, hy⟩
      refine hK.out _ _ (Ext.trans (Ext.trans (Ext.trans hx3 hx4) hx5) hy) ?_
      clear hK
      (try simp only [Act.put, List.setIfInBounds_toArray, List.set_cons_zero, List.set_cons_succ])
      have hx6 : Ext w5 w6 := Ext.trans (Ext.auto) hy
      have hs6 := hx6.size
      have he6 : Ext w w6 := he5.trans hx6
      have hBb_6 : Bx w6 (w.heap.size) [.int .i64 b.pc, .int .i64 b.len, (.slice Ab1 b.ops.length cb1), .int .i64 b.fin, .int .i64 b.x, .int .i64 b.y, .int .i64 b.k] := hx6.bx hBb_5 (by omega)
      have hFb_6 : ∀ oo, w6.frozen? ⟨w.heap.size, oo, none⟩ = false := fun oo => (hx6.frozen (by omega)).trans (hFb_5 oo)
      have hBm_6 : Bx w6 (w.heap.size + 1) [(.slice Am1 m.regs.length cm1), .int .i64 m.pc, (.slice Am2 m.mem.length cm2), .int .i64 m.save, .bool m.lets, .bool m.waits, .int .i64 m.halt, (.slice Am3 m.ins.length cm3), (.slice Am4 m.outs.length cm4), .int .i64 m.count] := hx6.bx hBm_5 (by omega)
      have hFm_6 : ∀ oo, w6.frozen? ⟨w.heap.size + 1, oo, none⟩ = false := fun oo => (hx6.frozen (by omega)).trans (hFm_5 oo)
      have hBq_6 : Bx w6 (w2.heap.size) [.slice none 0 0, .int .i64 0, .slice none 0 0, .int .i64 0, .bool false, .bool false, .int .i64 0, .slice none 0 0, .slice none 0 0, .int .i64 0] := hx6.bx hBq_5 (by omega)
      have hFq_6 : ∀ oo, w6.frozen? ⟨w2.heap.size, oo, none⟩ = false := fun oo => (hx6.frozen (by omega)).trans (hFq_5 oo)
      clear hBb_5 hFb_5 hBm_5 hFm_5 hBq_5 hFq_5
      clear hy
      obtain ⟨A_w1, c_w1, rfl, -, -⟩ := ho_w1.sl.form
      obtain ⟨A_w2, c_w2, rfl, -, -⟩ := ho_w2.sl.form
      obtain ⟨A_w3, c_w3, rfl, -, -⟩ := ho_w3.sl.form
      obtain ⟨A_w4, c_w4, rfl, -, -⟩ := ho_w4.sl.form
      have fr_w : Fr w5 w6 (F_w1 ++ F_w2 ++ F_w3 ++ F_w4) := hf_w.mk1 (by first | exact Nat.le_refl _ | (simp; done)) (Nat.le_refl _)
      clear hf_w
      iterate 3 ((refine Plan.float_step (v := ?_) rfl (by rfl) (fun _ _ _ h => h) (fun w' hSw => ?_) ?_; rotate_left; · (go_simp; try with_reducible rfl)); (try simp only [Act.put, List.setIfInBounds_toArray, List.set_cons_zero, List.set_cons_succ]))
      have yq : w2.heap.size < w6.heap.size := by omega
      have xq0 := hBq_6 0 _ rfl
      have xq1 := hBq_6 1 _ rfl
      have xq2 := hBq_6 2 _ rfl
      have xq3 := hBq_6 3 _ rfl
      have xq4 := hBq_6 4 _ rfl
      have xq5 := hBq_6 5 _ rfl
      have xq6 := hBq_6 6 _ rfl
      have xq7 := hBq_6 7 _ rfl
      have xq8 := hBq_6 8 _ rfl
      have xq9 := hBq_6 9 _ rfl
      have fq := hFq_6
      refine Plan.chain_step rfl (fun K hK => ?_)
      go_simp
      have hcl : Ext w2 w6 := (Ext.trans (Ext.trans (Ext.trans hx3 hx4) hx5) hx6)
      refine hK.out _ _ (Ext.hold hcl) ?_
      clear hK
      (try simp only [Act.put, List.setIfInBounds_toArray, List.set_cons_zero, List.set_cons_succ])
      refine Plan.tail_step ?_
      simp only [List.drop_succ_cons, List.drop_zero]
      clear hS
      go_wp2_with fail
      go_meet
      exact ⟨w2.heap.size, _, _, _, _, _, _, _, _, F_w1, F_w2, F_w3, F_w4, rfl, rfl, Ext.hold hcl, (by omega), (by first | omega | (simp; omega)), hBq_6.store10 rfl _ _ _ _ _ _ _ _ _ _, fz_hold hFq_6, OwnSl.stay (OwnSl.up ho_w1 (fr_w.inl.inl.inl.mk1 (Nat.le_refl _) (by omega)) (Ext.refl _)) (fun z hb => by
          have q := fr_w.inl.inl.inl.2 z hb; have q1 := q.1; have q2 := q.2
          repeat (first | rw [heap_set _ _ _ _ (by show _ ≠ z; omega)] | rw [heap_set _ _ _ _ (by simp; omega)])), OwnSl.stay (OwnSl.up ho_w2 (fr_w.inl.inl.inr.mk1 (Nat.le_refl _) (by omega)) (Ext.refl _)) (fun z hb => by
          have q := fr_w.inl.inl.inr.2 z hb; have q1 := q.1; have q2 := q.2
          repeat (first | rw [heap_set _ _ _ _ (by show _ ≠ z; omega)] | rw [heap_set _ _ _ _ (by simp; omega)])), OwnSl.stay (OwnSl.up ho_w3 (fr_w.inl.inr.mk1 (Nat.le_refl _) (by omega)) (Ext.refl _)) (fun z hb => by
          have q := fr_w.inl.inr.2 z hb; have q1 := q.1; have q2 := q.2
          repeat (first | rw [heap_set _ _ _ _ (by show _ ≠ z; omega)] | rw [heap_set _ _ _ _ (by simp; omega)])), OwnSl.stay (OwnSl.up ho_w4 (fr_w.inr.mk1 (Nat.le_refl _) (by omega)) (Ext.refl _)) (fun z hb => by
          have q := fr_w.inr.2 z hb; have q1 := q.1; have q2 := q.2
          repeat (first | rw [heap_set _ _ _ _ (by show _ ≠ z; omega)] | rw [heap_set _ _ _ _ (by simp; omega)])), fr_w.mk1 (by first | omega | (simp; done) | (simp; omega)) (by first | omega | (simp; done) | (simp; omega))⟩
  obtain ⟨q_w, A_w1, c_w1, A_w2, c_w2, A_w3, c_w3, A_w4, c_w4, F_w1, F_w2, F_w3, F_w4, rfl, rfl, hy, hq0_w, hq1_w, hBq_, hFq_, ho_w1, ho_w2, ho_w3, ho_w4, fr_w⟩ := hcut
  obtain ⟨w3, hwc⟩ : ∃ w3 : World, w3 = wc := ⟨_, rfl⟩
  subst hwc
  have hx3 : Ext w2 w3 := Ext.trans (Ext.auto) hy
  have hs3 := hx3.size
  have he3 : Ext w w3 := he2.trans hx3
  have hBb_3 : Bx w3 (w.heap.size) [.int .i64 b.pc, .int .i64 b.len, (.slice Ab1 b.ops.length cb1), .int .i64 b.fin, .int .i64 b.x, .int .i64 b.y, .int .i64 b.k] := hx3.bx hBb_2 (by omega)
  have hFb_3 : ∀ oo, w3.frozen? ⟨w.heap.size, oo, none⟩ = false := fun oo => (hx3.frozen (by omega)).trans (hFb_2 oo)
  have hBm_3 : Bx w3 (w.heap.size + 1) [(.slice Am1 m.regs.length cm1), .int .i64 m.pc, (.slice Am2 m.mem.length cm2), .int .i64 m.save, .bool m.lets, .bool m.waits, .int .i64 m.halt, (.slice Am3 m.ins.length cm3), (.slice Am4 m.outs.length cm4), .int .i64 m.count] := hx3.bx hBm_2 (by omega)
  have hFm_3 : ∀ oo, w3.frozen? ⟨w.heap.size + 1, oo, none⟩ = false := fun oo => (hx3.frozen (by omega)).trans (hFm_2 oo)
  clear hBb_2 hFb_2 hBm_2 hFm_2
  clear hy
  have hBw_3 := hBq_
  have hFw_3 := hFq_
  clear hBq_ hFq_
  have yb : w.heap.size < w3.heap.size := by omega
  have xb0 := hBb_3 0 _ rfl
  have xb1 := hBb_3 1 _ rfl
  have xb2 := hBb_3 2 _ rfl
  have xb3 := hBb_3 3 _ rfl
  have xb4 := hBb_3 4 _ rfl
  have xb5 := hBb_3 5 _ rfl
  have xb6 := hBb_3 6 _ rfl
  go_wp2_with fail
  clear xb0 xb1 xb2 xb3 xb4 xb5 xb6 yb
  refine (to_IrBlock b _ _ (hb1.ext (Ext.trans he3 (Ext.auto))) nb).mono ?_
  rintro e w4 ⟨r_xb1, F_xb1, rfl, ho_xb1, hf_xb, hy⟩
  have hx4 : Ext w3 w4 := Ext.trans (Ext.auto) hy
  have hs4 := hx4.size
  have he4 : Ext w w4 := he3.trans hx4
  have hBb_4 : Bx w4 (w.heap.size) [.int .i64 b.pc, .int .i64 b.len, (.slice Ab1 b.ops.length cb1), .int .i64 b.fin, .int .i64 b.x, .int .i64 b.y, .int .i64 b.k] := hx4.bx hBb_3 (by omega)
  have hFb_4 : ∀ oo, w4.frozen? ⟨w.heap.size, oo, none⟩ = false := fun oo => (hx4.frozen (by omega)).trans (hFb_3 oo)
  have hBm_4 : Bx w4 (w.heap.size + 1) [(.slice Am1 m.regs.length cm1), .int .i64 m.pc, (.slice Am2 m.mem.length cm2), .int .i64 m.save, .bool m.lets, .bool m.waits, .int .i64 m.halt, (.slice Am3 m.ins.length cm3), (.slice Am4 m.outs.length cm4), .int .i64 m.count] := hx4.bx hBm_3 (by omega)
  have hFm_4 : ∀ oo, w4.frozen? ⟨w.heap.size + 1, oo, none⟩ = false := fun oo => (hx4.frozen (by omega)).trans (hFm_3 oo)
  have hBw_4 : Bx w4 (q_w) [(.slice A_w1 ((irRun b m).regs).length c_w1), .int .i64 ((irRun b m).pc), (.slice A_w2 ((irRun b m).mem).length c_w2), .int .i64 ((irRun b m).save), .bool (irRun b m).lets, .bool (irRun b m).waits, .int .i64 ((irRun b m).halt), (.slice A_w3 ((irRun b m).ins).length c_w3), (.slice A_w4 ((irRun b m).outs).length c_w4), .int .i64 ((irRun b m).count)] := hx4.bx hBw_3 (by omega)
  have hFw_4 : ∀ oo, w4.frozen? ⟨q_w, oo, none⟩ = false := fun oo => (hx4.frozen (by omega)).trans (hFw_3 oo)
  clear hBb_3 hFb_3 hBm_3 hFm_3 hBw_3 hFw_3
  clear hy
  obtain ⟨A_xb1, c_xb1, rfl, -, -⟩ := ho_xb1.sl.form
  have fr_xb : Fr w3 w4 (F_xb1) := hf_xb.mk1 (by first | exact Nat.le_refl _ | (simp; done)) (Nat.le_refl _)
  clear hf_xb
  have ym : w.heap.size + 1 < w4.heap.size := by omega
  have xm0 := hBm_4 0 _ rfl
  have xm1 := hBm_4 1 _ rfl
  have xm2 := hBm_4 2 _ rfl
  have xm3 := hBm_4 3 _ rfl
  have xm4 := hBm_4 4 _ rfl
  have xm5 := hBm_4 5 _ rfl
  have xm6 := hBm_4 6 _ rfl
  have xm7 := hBm_4 7 _ rfl
  have xm8 := hBm_4 8 _ rfl
  have xm9 := hBm_4 9 _ rfl
  go_wp2_with fail
  clear xm0 xm1 xm2 xm3 xm4 xm5 xm6 xm7 xm8 xm9 ym
  have hx5 : Ext w4 (w4.alloc (Obj.cells #[.int .i64 b.pc, .int .i64 b.len, (.slice A_xb1 (b.ops).length c_xb1), .int .i64 b.fin, .int .i64 b.x, .int .i64 b.y, .int .i64 b.k] 25)) := (Ext.auto)
  have hs5 : w4.heap.size + 1 ≤ ((w4.alloc (Obj.cells #[.int .i64 b.pc, .int .i64 b.len, (.slice A_xb1 (b.ops).length c_xb1), .int .i64 b.fin, .int .i64 b.x, .int .i64 b.y, .int .i64 b.k] 25))).heap.size := by simp
  have he5 : Ext w (w4.alloc (Obj.cells #[.int .i64 b.pc, .int .i64 b.len, (.slice A_xb1 (b.ops).length c_xb1), .int .i64 b.fin, .int .i64 b.x, .int .i64 b.y, .int .i64 b.k] 25)) := he4.trans hx5
  have hBb_5 : Bx (w4.alloc (Obj.cells #[.int .i64 b.pc, .int .i64 b.len, (.slice A_xb1 (b.ops).length c_xb1), .int .i64 b.fin, .int .i64 b.x, .int .i64 b.y, .int .i64 b.k] 25)) (w.heap.size) [.int .i64 b.pc, .int .i64 b.len, (.slice Ab1 b.ops.length cb1), .int .i64 b.fin, .int .i64 b.x, .int .i64 b.y, .int .i64 b.k] := hx5.bx hBb_4 (by omega)
  have hFb_5 : ∀ oo, ((w4.alloc (Obj.cells #[.int .i64 b.pc, .int .i64 b.len, (.slice A_xb1 (b.ops).length c_xb1), .int .i64 b.fin, .int .i64 b.x, .int .i64 b.y, .int .i64 b.k] 25))).frozen? ⟨w.heap.size, oo, none⟩ = false := fun oo => (hx5.frozen (by omega)).trans (hFb_4 oo)
  have hBm_5 : Bx (w4.alloc (Obj.cells #[.int .i64 b.pc, .int .i64 b.len, (.slice A_xb1 (b.ops).length c_xb1), .int .i64 b.fin, .int .i64 b.x, .int .i64 b.y, .int .i64 b.k] 25)) (w.heap.size + 1) [(.slice Am1 m.regs.length cm1), .int .i64 m.pc, (.slice Am2 m.mem.length cm2), .int .i64 m.save, .bool m.lets, .bool m.waits, .int .i64 m.halt, (.slice Am3 m.ins.length cm3), (.slice Am4 m.outs.length cm4), .int .i64 m.count] := hx5.bx hBm_4 (by omega)
  have hFm_5 : ∀ oo, ((w4.alloc (Obj.cells #[.int .i64 b.pc, .int .i64 b.len, (.slice A_xb1 (b.ops).length c_xb1), .int .i64 b.fin, .int .i64 b.x, .int .i64 b.y, .int .i64 b.k] 25))).frozen? ⟨w.heap.size + 1, oo, none⟩ = false := fun oo => (hx5.frozen (by omega)).trans (hFm_4 oo)
  have hBw_5 : Bx (w4.alloc (Obj.cells #[.int .i64 b.pc, .int .i64 b.len, (.slice A_xb1 (b.ops).length c_xb1), .int .i64 b.fin, .int .i64 b.x, .int .i64 b.y, .int .i64 b.k] 25)) (q_w) [(.slice A_w1 ((irRun b m).regs).length c_w1), .int .i64 ((irRun b m).pc), (.slice A_w2 ((irRun b m).mem).length c_w2), .int .i64 ((irRun b m).save), .bool (irRun b m).lets, .bool (irRun b m).waits, .int .i64 ((irRun b m).halt), (.slice A_w3 ((irRun b m).ins).length c_w3), (.slice A_w4 ((irRun b m).outs).length c_w4), .int .i64 ((irRun b m).count)] := hx5.bx hBw_4 (by omega)
  have hFw_5 : ∀ oo, ((w4.alloc (Obj.cells #[.int .i64 b.pc, .int .i64 b.len, (.slice A_xb1 (b.ops).length c_xb1), .int .i64 b.fin, .int .i64 b.x, .int .i64 b.y, .int .i64 b.k] 25))).frozen? ⟨q_w, oo, none⟩ = false := fun oo => (hx5.frozen (by omega)).trans (hFw_4 oo)
  have hBxb_5 : Bx (w4.alloc (Obj.cells #[.int .i64 b.pc, .int .i64 b.len, (.slice A_xb1 (b.ops).length c_xb1), .int .i64 b.fin, .int .i64 b.x, .int .i64 b.y, .int .i64 b.k] 25)) (w4.heap.size) [.int .i64 b.pc, .int .i64 b.len, (.slice A_xb1 (b.ops).length c_xb1), .int .i64 b.fin, .int .i64 b.x, .int .i64 b.y, .int .i64 b.k] := by have := (by have := (Bx.new w4 #[.int .i64 b.pc, .int .i64 b.len, (.slice A_xb1 (b.ops).length c_xb1), .int .i64 b.fin, .int .i64 b.x, .int .i64 b.y, .int .i64 b.k] 25); simpa using this); exact this
  have hFxb_5 : ∀ oo, ((w4.alloc (Obj.cells #[.int .i64 b.pc, .int .i64 b.len, (.slice A_xb1 (b.ops).length c_xb1), .int .i64 b.fin, .int .i64 b.x, .int .i64 b.y, .int .i64 b.k] 25))).frozen? ⟨w4.heap.size, oo, none⟩ = false := fun oo => by simp
  generalize (w4.alloc (Obj.cells #[.int .i64 b.pc, .int .i64 b.len, (.slice A_xb1 (b.ops).length c_xb1), .int .i64 b.fin, .int .i64 b.x, .int .i64 b.y, .int .i64 b.k] 25)) = w5 at *
  clear hBb_4 hFb_4 hBm_4 hFm_4 hBw_4 hFw_4
  refine (to_MchMach m _ _ _ _ _ (hm1.ext (Ext.trans he5 (Ext.auto))) (hm2.ext (Ext.trans he5 (Ext.auto))) (hm3.ext (Ext.trans he5 (Ext.auto))) (hm4.ext (Ext.trans he5 (Ext.auto))) nm).mono ?_
  rintro e w6 ⟨r_xm1, r_xm2, r_xm3, r_xm4, F_xm1, F_xm2, F_xm3, F_xm4, rfl, ho_xm1, ho_xm2, ho_xm3, ho_xm4, hf_xm, hy⟩
  have hx6 : Ext w5 w6 := Ext.trans (Ext.auto) hy
  have hs6 := hx6.size
  have he6 : Ext w w6 := he5.trans hx6
  have hBb_6 : Bx w6 (w.heap.size) [.int .i64 b.pc, .int .i64 b.len, (.slice Ab1 b.ops.length cb1), .int .i64 b.fin, .int .i64 b.x, .int .i64 b.y, .int .i64 b.k] := hx6.bx hBb_5 (by omega)
  have hFb_6 : ∀ oo, w6.frozen? ⟨w.heap.size, oo, none⟩ = false := fun oo => (hx6.frozen (by omega)).trans (hFb_5 oo)
  have hBm_6 : Bx w6 (w.heap.size + 1) [(.slice Am1 m.regs.length cm1), .int .i64 m.pc, (.slice Am2 m.mem.length cm2), .int .i64 m.save, .bool m.lets, .bool m.waits, .int .i64 m.halt, (.slice Am3 m.ins.length cm3), (.slice Am4 m.outs.length cm4), .int .i64 m.count] := hx6.bx hBm_5 (by omega)
  have hFm_6 : ∀ oo, w6.frozen? ⟨w.heap.size + 1, oo, none⟩ = false := fun oo => (hx6.frozen (by omega)).trans (hFm_5 oo)
  have hBw_6 : Bx w6 (q_w) [(.slice A_w1 ((irRun b m).regs).length c_w1), .int .i64 ((irRun b m).pc), (.slice A_w2 ((irRun b m).mem).length c_w2), .int .i64 ((irRun b m).save), .bool (irRun b m).lets, .bool (irRun b m).waits, .int .i64 ((irRun b m).halt), (.slice A_w3 ((irRun b m).ins).length c_w3), (.slice A_w4 ((irRun b m).outs).length c_w4), .int .i64 ((irRun b m).count)] := hx6.bx hBw_5 (by omega)
  have hFw_6 : ∀ oo, w6.frozen? ⟨q_w, oo, none⟩ = false := fun oo => (hx6.frozen (by omega)).trans (hFw_5 oo)
  have hBxb_6 : Bx w6 (w4.heap.size) [.int .i64 b.pc, .int .i64 b.len, (.slice A_xb1 (b.ops).length c_xb1), .int .i64 b.fin, .int .i64 b.x, .int .i64 b.y, .int .i64 b.k] := hx6.bx hBxb_5 (by omega)
  have hFxb_6 : ∀ oo, w6.frozen? ⟨w4.heap.size, oo, none⟩ = false := fun oo => (hx6.frozen (by omega)).trans (hFxb_5 oo)
  clear hBb_5 hFb_5 hBm_5 hFm_5 hBw_5 hFw_5 hBxb_5 hFxb_5
  clear hy
  obtain ⟨A_xm1, c_xm1, rfl, -, -⟩ := ho_xm1.sl.form
  obtain ⟨A_xm2, c_xm2, rfl, -, -⟩ := ho_xm2.sl.form
  obtain ⟨A_xm3, c_xm3, rfl, -, -⟩ := ho_xm3.sl.form
  obtain ⟨A_xm4, c_xm4, rfl, -, -⟩ := ho_xm4.sl.form
  have fr_xm : Fr w5 w6 (F_xm1 ++ F_xm2 ++ F_xm3 ++ F_xm4) := hf_xm.mk1 (by first | exact Nat.le_refl _ | (simp; done)) (Nat.le_refl _)
  clear hf_xm
  have yxb : w4.heap.size < w6.heap.size := by omega
  have xxb0 := hBxb_6 0 _ rfl
  have xxb1 := hBxb_6 1 _ rfl
  have xxb2 := hBxb_6 2 _ rfl
  have xxb3 := hBxb_6 3 _ rfl
  have xxb4 := hBxb_6 4 _ rfl
  have xxb5 := hBxb_6 5 _ rfl
  have xxb6 := hBxb_6 6 _ rfl
  go_wp2_with fail
  clear xxb0 xxb1 xxb2 xxb3 xxb4 xxb5 xxb6 yxb
  have hx7 : Ext w6 (w6.alloc (Obj.cells #[(.slice A_xm1 (m.regs).length c_xm1), .int .i64 m.pc, (.slice A_xm2 (m.mem).length c_xm2), .int .i64 m.save, .bool m.lets, .bool m.waits, .int .i64 m.halt, (.slice A_xm3 (m.ins).length c_xm3), (.slice A_xm4 (m.outs).length c_xm4), .int .i64 m.count] 46)) := (Ext.auto)
  have hs7 : w6.heap.size + 1 ≤ ((w6.alloc (Obj.cells #[(.slice A_xm1 (m.regs).length c_xm1), .int .i64 m.pc, (.slice A_xm2 (m.mem).length c_xm2), .int .i64 m.save, .bool m.lets, .bool m.waits, .int .i64 m.halt, (.slice A_xm3 (m.ins).length c_xm3), (.slice A_xm4 (m.outs).length c_xm4), .int .i64 m.count] 46))).heap.size := by simp
  have he7 : Ext w (w6.alloc (Obj.cells #[(.slice A_xm1 (m.regs).length c_xm1), .int .i64 m.pc, (.slice A_xm2 (m.mem).length c_xm2), .int .i64 m.save, .bool m.lets, .bool m.waits, .int .i64 m.halt, (.slice A_xm3 (m.ins).length c_xm3), (.slice A_xm4 (m.outs).length c_xm4), .int .i64 m.count] 46)) := he6.trans hx7
  have hBb_7 : Bx (w6.alloc (Obj.cells #[(.slice A_xm1 (m.regs).length c_xm1), .int .i64 m.pc, (.slice A_xm2 (m.mem).length c_xm2), .int .i64 m.save, .bool m.lets, .bool m.waits, .int .i64 m.halt, (.slice A_xm3 (m.ins).length c_xm3), (.slice A_xm4 (m.outs).length c_xm4), .int .i64 m.count] 46)) (w.heap.size) [.int .i64 b.pc, .int .i64 b.len, (.slice Ab1 b.ops.length cb1), .int .i64 b.fin, .int .i64 b.x, .int .i64 b.y, .int .i64 b.k] := hx7.bx hBb_6 (by omega)
  have hFb_7 : ∀ oo, ((w6.alloc (Obj.cells #[(.slice A_xm1 (m.regs).length c_xm1), .int .i64 m.pc, (.slice A_xm2 (m.mem).length c_xm2), .int .i64 m.save, .bool m.lets, .bool m.waits, .int .i64 m.halt, (.slice A_xm3 (m.ins).length c_xm3), (.slice A_xm4 (m.outs).length c_xm4), .int .i64 m.count] 46))).frozen? ⟨w.heap.size, oo, none⟩ = false := fun oo => (hx7.frozen (by omega)).trans (hFb_6 oo)
  have hBm_7 : Bx (w6.alloc (Obj.cells #[(.slice A_xm1 (m.regs).length c_xm1), .int .i64 m.pc, (.slice A_xm2 (m.mem).length c_xm2), .int .i64 m.save, .bool m.lets, .bool m.waits, .int .i64 m.halt, (.slice A_xm3 (m.ins).length c_xm3), (.slice A_xm4 (m.outs).length c_xm4), .int .i64 m.count] 46)) (w.heap.size + 1) [(.slice Am1 m.regs.length cm1), .int .i64 m.pc, (.slice Am2 m.mem.length cm2), .int .i64 m.save, .bool m.lets, .bool m.waits, .int .i64 m.halt, (.slice Am3 m.ins.length cm3), (.slice Am4 m.outs.length cm4), .int .i64 m.count] := hx7.bx hBm_6 (by omega)
  have hFm_7 : ∀ oo, ((w6.alloc (Obj.cells #[(.slice A_xm1 (m.regs).length c_xm1), .int .i64 m.pc, (.slice A_xm2 (m.mem).length c_xm2), .int .i64 m.save, .bool m.lets, .bool m.waits, .int .i64 m.halt, (.slice A_xm3 (m.ins).length c_xm3), (.slice A_xm4 (m.outs).length c_xm4), .int .i64 m.count] 46))).frozen? ⟨w.heap.size + 1, oo, none⟩ = false := fun oo => (hx7.frozen (by omega)).trans (hFm_6 oo)
  have hBw_7 : Bx (w6.alloc (Obj.cells #[(.slice A_xm1 (m.regs).length c_xm1), .int .i64 m.pc, (.slice A_xm2 (m.mem).length c_xm2), .int .i64 m.save, .bool m.lets, .bool m.waits, .int .i64 m.halt, (.slice A_xm3 (m.ins).length c_xm3), (.slice A_xm4 (m.outs).length c_xm4), .int .i64 m.count] 46)) (q_w) [(.slice A_w1 ((irRun b m).regs).length c_w1), .int .i64 ((irRun b m).pc), (.slice A_w2 ((irRun b m).mem).length c_w2), .int .i64 ((irRun b m).save), .bool (irRun b m).lets, .bool (irRun b m).waits, .int .i64 ((irRun b m).halt), (.slice A_w3 ((irRun b m).ins).length c_w3), (.slice A_w4 ((irRun b m).outs).length c_w4), .int .i64 ((irRun b m).count)] := hx7.bx hBw_6 (by omega)
  have hFw_7 : ∀ oo, ((w6.alloc (Obj.cells #[(.slice A_xm1 (m.regs).length c_xm1), .int .i64 m.pc, (.slice A_xm2 (m.mem).length c_xm2), .int .i64 m.save, .bool m.lets, .bool m.waits, .int .i64 m.halt, (.slice A_xm3 (m.ins).length c_xm3), (.slice A_xm4 (m.outs).length c_xm4), .int .i64 m.count] 46))).frozen? ⟨q_w, oo, none⟩ = false := fun oo => (hx7.frozen (by omega)).trans (hFw_6 oo)
  have hBxb_7 : Bx (w6.alloc (Obj.cells #[(.slice A_xm1 (m.regs).length c_xm1), .int .i64 m.pc, (.slice A_xm2 (m.mem).length c_xm2), .int .i64 m.save, .bool m.lets, .bool m.waits, .int .i64 m.halt, (.slice A_xm3 (m.ins).length c_xm3), (.slice A_xm4 (m.outs).length c_xm4), .int .i64 m.count] 46)) (w4.heap.size) [.int .i64 b.pc, .int .i64 b.len, (.slice A_xb1 (b.ops).length c_xb1), .int .i64 b.fin, .int .i64 b.x, .int .i64 b.y, .int .i64 b.k] := hx7.bx hBxb_6 (by omega)
  have hFxb_7 : ∀ oo, ((w6.alloc (Obj.cells #[(.slice A_xm1 (m.regs).length c_xm1), .int .i64 m.pc, (.slice A_xm2 (m.mem).length c_xm2), .int .i64 m.save, .bool m.lets, .bool m.waits, .int .i64 m.halt, (.slice A_xm3 (m.ins).length c_xm3), (.slice A_xm4 (m.outs).length c_xm4), .int .i64 m.count] 46))).frozen? ⟨w4.heap.size, oo, none⟩ = false := fun oo => (hx7.frozen (by omega)).trans (hFxb_6 oo)
  have hBxm_7 : Bx (w6.alloc (Obj.cells #[(.slice A_xm1 (m.regs).length c_xm1), .int .i64 m.pc, (.slice A_xm2 (m.mem).length c_xm2), .int .i64 m.save, .bool m.lets, .bool m.waits, .int .i64 m.halt, (.slice A_xm3 (m.ins).length c_xm3), (.slice A_xm4 (m.outs).length c_xm4), .int .i64 m.count] 46)) (w6.heap.size) [(.slice A_xm1 (m.regs).length c_xm1), .int .i64 m.pc, (.slice A_xm2 (m.mem).length c_xm2), .int .i64 m.save, .bool m.lets, .bool m.waits, .int .i64 m.halt, (.slice A_xm3 (m.ins).length c_xm3), (.slice A_xm4 (m.outs).length c_xm4), .int .i64 m.count] := by have := (by have := (Bx.new w6 #[(.slice A_xm1 (m.regs).length c_xm1), .int .i64 m.pc, (.slice A_xm2 (m.mem).length c_xm2), .int .i64 m.save, .bool m.lets, .bool m.waits, .int .i64 m.halt, (.slice A_xm3 (m.ins).length c_xm3), (.slice A_xm4 (m.outs).length c_xm4), .int .i64 m.count] 46); simpa using this); exact this
  have hFxm_7 : ∀ oo, ((w6.alloc (Obj.cells #[(.slice A_xm1 (m.regs).length c_xm1), .int .i64 m.pc, (.slice A_xm2 (m.mem).length c_xm2), .int .i64 m.save, .bool m.lets, .bool m.waits, .int .i64 m.halt, (.slice A_xm3 (m.ins).length c_xm3), (.slice A_xm4 (m.outs).length c_xm4), .int .i64 m.count] 46))).frozen? ⟨w6.heap.size, oo, none⟩ = false := fun oo => by simp
  generalize (w6.alloc (Obj.cells #[(.slice A_xm1 (m.regs).length c_xm1), .int .i64 m.pc, (.slice A_xm2 (m.mem).length c_xm2), .int .i64 m.save, .bool m.lets, .bool m.waits, .int .i64 m.halt, (.slice A_xm3 (m.ins).length c_xm3), (.slice A_xm4 (m.outs).length c_xm4), .int .i64 m.count] 46)) = w7 at *
  clear hBb_6 hFb_6 hBm_6 hFm_6 hBw_6 hFw_6 hBxb_6 hFxb_6
  refine (implIrRun_p b m _ _ _ _ _ _ ((OwnSl.up ho_xb1 (fr_xb.mk1 (Nat.le_refl _) (by omega)) (Ext.trans (Ext.trans hx5 hx6) hx7)).old (fr_xb.mk1 (Nat.le_refl _) (by omega))) ((OwnSl.up ho_xm1 (fr_xm.inl.inl.inl.mk1 (Nat.le_refl _) (by omega)) hx7).old (fr_xm.inl.inl.inl.mk1 (Nat.le_refl _) (by omega))) ((OwnSl.up ho_xm2 (fr_xm.inl.inl.inr.mk1 (Nat.le_refl _) (by omega)) hx7).old (fr_xm.inl.inl.inr.mk1 (Nat.le_refl _) (by omega))) ((OwnSl.up ho_xm3 (fr_xm.inl.inr.mk1 (Nat.le_refl _) (by omega)) hx7).old (fr_xm.inl.inr.mk1 (Nat.le_refl _) (by omega))) ((OwnSl.up ho_xm4 (fr_xm.inr.mk1 (Nat.le_refl _) (by omega)) hx7).old (fr_xm.inr.mk1 (Nat.le_refl _) (by omega))) (by omega) (by omega) (by omega) (by omega) hkb (by omega)).mono ?_
  rintro e w8 ⟨r_g1, r_g2, r_g3, r_g4, F_g1, F_g2, F_g3, F_g4, rfl, ho_g1, ho_g2, ho_g3, ho_g4, hf_g, hy⟩
  have hx8 : Ext w7 w8 := Ext.trans (Ext.auto) hy
  have hs8 := hx8.size
  have he8 : Ext w w8 := he7.trans hx8
  have hBb_8 : Bx w8 (w.heap.size) [.int .i64 b.pc, .int .i64 b.len, (.slice Ab1 b.ops.length cb1), .int .i64 b.fin, .int .i64 b.x, .int .i64 b.y, .int .i64 b.k] := hx8.bx hBb_7 (by omega)
  have hFb_8 : ∀ oo, w8.frozen? ⟨w.heap.size, oo, none⟩ = false := fun oo => (hx8.frozen (by omega)).trans (hFb_7 oo)
  have hBm_8 : Bx w8 (w.heap.size + 1) [(.slice Am1 m.regs.length cm1), .int .i64 m.pc, (.slice Am2 m.mem.length cm2), .int .i64 m.save, .bool m.lets, .bool m.waits, .int .i64 m.halt, (.slice Am3 m.ins.length cm3), (.slice Am4 m.outs.length cm4), .int .i64 m.count] := hx8.bx hBm_7 (by omega)
  have hFm_8 : ∀ oo, w8.frozen? ⟨w.heap.size + 1, oo, none⟩ = false := fun oo => (hx8.frozen (by omega)).trans (hFm_7 oo)
  have hBw_8 : Bx w8 (q_w) [(.slice A_w1 ((irRun b m).regs).length c_w1), .int .i64 ((irRun b m).pc), (.slice A_w2 ((irRun b m).mem).length c_w2), .int .i64 ((irRun b m).save), .bool (irRun b m).lets, .bool (irRun b m).waits, .int .i64 ((irRun b m).halt), (.slice A_w3 ((irRun b m).ins).length c_w3), (.slice A_w4 ((irRun b m).outs).length c_w4), .int .i64 ((irRun b m).count)] := hx8.bx hBw_7 (by omega)
  have hFw_8 : ∀ oo, w8.frozen? ⟨q_w, oo, none⟩ = false := fun oo => (hx8.frozen (by omega)).trans (hFw_7 oo)
  have hBxb_8 : Bx w8 (w4.heap.size) [.int .i64 b.pc, .int .i64 b.len, (.slice A_xb1 (b.ops).length c_xb1), .int .i64 b.fin, .int .i64 b.x, .int .i64 b.y, .int .i64 b.k] := hx8.bx hBxb_7 (by omega)
  have hFxb_8 : ∀ oo, w8.frozen? ⟨w4.heap.size, oo, none⟩ = false := fun oo => (hx8.frozen (by omega)).trans (hFxb_7 oo)
  have hBxm_8 : Bx w8 (w6.heap.size) [(.slice A_xm1 (m.regs).length c_xm1), .int .i64 m.pc, (.slice A_xm2 (m.mem).length c_xm2), .int .i64 m.save, .bool m.lets, .bool m.waits, .int .i64 m.halt, (.slice A_xm3 (m.ins).length c_xm3), (.slice A_xm4 (m.outs).length c_xm4), .int .i64 m.count] := hx8.bx hBxm_7 (by omega)
  have hFxm_8 : ∀ oo, w8.frozen? ⟨w6.heap.size, oo, none⟩ = false := fun oo => (hx8.frozen (by omega)).trans (hFxm_7 oo)
  clear hBb_7 hFb_7 hBm_7 hFm_7 hBw_7 hFw_7 hBxb_7 hFxb_7 hBxm_7 hFxm_7
  clear hy
  obtain ⟨A_g1, c_g1, rfl, -, -⟩ := ho_g1.sl.form
  obtain ⟨A_g2, c_g2, rfl, -, -⟩ := ho_g2.sl.form
  obtain ⟨A_g3, c_g3, rfl, -, -⟩ := ho_g3.sl.form
  obtain ⟨A_g4, c_g4, rfl, -, -⟩ := ho_g4.sl.form
  have fr_g : Fr w7 w8 (F_g1 ++ F_g2 ++ F_g3 ++ F_g4) := hf_g.mk1 (by first | exact Nat.le_refl _ | (simp; done)) (Nat.le_refl _)
  clear hf_g
  have yw : q_w < w8.heap.size := by omega
  have xw0 := hBw_8 0 _ rfl
  have xw1 := hBw_8 1 _ rfl
  have xw2 := hBw_8 2 _ rfl
  have xw3 := hBw_8 3 _ rfl
  have xw4 := hBw_8 4 _ rfl
  have xw5 := hBw_8 5 _ rfl
  have xw6 := hBw_8 6 _ rfl
  have xw7 := hBw_8 7 _ rfl
  have xw8 := hBw_8 8 _ rfl
  have xw9 := hBw_8 9 _ rfl
  go_wp2_with fail
  clear xw0 xw1 xw2 xw3 xw4 xw5 xw6 xw7 xw8 xw9 yw
  have hx9 : Ext w8 (w8.alloc (Obj.cells #[(.slice A_g1 ((irRun b m).regs).length c_g1), .int .i64 ((irRun b m).pc), (.slice A_g2 ((irRun b m).mem).length c_g2), .int .i64 ((irRun b m).save), .bool (irRun b m).lets, .bool (irRun b m).waits, .int .i64 ((irRun b m).halt), (.slice A_g3 ((irRun b m).ins).length c_g3), (.slice A_g4 ((irRun b m).outs).length c_g4), .int .i64 ((irRun b m).count)] 46)) := (Ext.auto)
  have hs9 : w8.heap.size + 1 ≤ ((w8.alloc (Obj.cells #[(.slice A_g1 ((irRun b m).regs).length c_g1), .int .i64 ((irRun b m).pc), (.slice A_g2 ((irRun b m).mem).length c_g2), .int .i64 ((irRun b m).save), .bool (irRun b m).lets, .bool (irRun b m).waits, .int .i64 ((irRun b m).halt), (.slice A_g3 ((irRun b m).ins).length c_g3), (.slice A_g4 ((irRun b m).outs).length c_g4), .int .i64 ((irRun b m).count)] 46))).heap.size := by simp
  have he9 : Ext w (w8.alloc (Obj.cells #[(.slice A_g1 ((irRun b m).regs).length c_g1), .int .i64 ((irRun b m).pc), (.slice A_g2 ((irRun b m).mem).length c_g2), .int .i64 ((irRun b m).save), .bool (irRun b m).lets, .bool (irRun b m).waits, .int .i64 ((irRun b m).halt), (.slice A_g3 ((irRun b m).ins).length c_g3), (.slice A_g4 ((irRun b m).outs).length c_g4), .int .i64 ((irRun b m).count)] 46)) := he8.trans hx9
  have hBb_9 : Bx (w8.alloc (Obj.cells #[(.slice A_g1 ((irRun b m).regs).length c_g1), .int .i64 ((irRun b m).pc), (.slice A_g2 ((irRun b m).mem).length c_g2), .int .i64 ((irRun b m).save), .bool (irRun b m).lets, .bool (irRun b m).waits, .int .i64 ((irRun b m).halt), (.slice A_g3 ((irRun b m).ins).length c_g3), (.slice A_g4 ((irRun b m).outs).length c_g4), .int .i64 ((irRun b m).count)] 46)) (w.heap.size) [.int .i64 b.pc, .int .i64 b.len, (.slice Ab1 b.ops.length cb1), .int .i64 b.fin, .int .i64 b.x, .int .i64 b.y, .int .i64 b.k] := hx9.bx hBb_8 (by omega)
  have hFb_9 : ∀ oo, ((w8.alloc (Obj.cells #[(.slice A_g1 ((irRun b m).regs).length c_g1), .int .i64 ((irRun b m).pc), (.slice A_g2 ((irRun b m).mem).length c_g2), .int .i64 ((irRun b m).save), .bool (irRun b m).lets, .bool (irRun b m).waits, .int .i64 ((irRun b m).halt), (.slice A_g3 ((irRun b m).ins).length c_g3), (.slice A_g4 ((irRun b m).outs).length c_g4), .int .i64 ((irRun b m).count)] 46))).frozen? ⟨w.heap.size, oo, none⟩ = false := fun oo => (hx9.frozen (by omega)).trans (hFb_8 oo)
  have hBm_9 : Bx (w8.alloc (Obj.cells #[(.slice A_g1 ((irRun b m).regs).length c_g1), .int .i64 ((irRun b m).pc), (.slice A_g2 ((irRun b m).mem).length c_g2), .int .i64 ((irRun b m).save), .bool (irRun b m).lets, .bool (irRun b m).waits, .int .i64 ((irRun b m).halt), (.slice A_g3 ((irRun b m).ins).length c_g3), (.slice A_g4 ((irRun b m).outs).length c_g4), .int .i64 ((irRun b m).count)] 46)) (w.heap.size + 1) [(.slice Am1 m.regs.length cm1), .int .i64 m.pc, (.slice Am2 m.mem.length cm2), .int .i64 m.save, .bool m.lets, .bool m.waits, .int .i64 m.halt, (.slice Am3 m.ins.length cm3), (.slice Am4 m.outs.length cm4), .int .i64 m.count] := hx9.bx hBm_8 (by omega)
  have hFm_9 : ∀ oo, ((w8.alloc (Obj.cells #[(.slice A_g1 ((irRun b m).regs).length c_g1), .int .i64 ((irRun b m).pc), (.slice A_g2 ((irRun b m).mem).length c_g2), .int .i64 ((irRun b m).save), .bool (irRun b m).lets, .bool (irRun b m).waits, .int .i64 ((irRun b m).halt), (.slice A_g3 ((irRun b m).ins).length c_g3), (.slice A_g4 ((irRun b m).outs).length c_g4), .int .i64 ((irRun b m).count)] 46))).frozen? ⟨w.heap.size + 1, oo, none⟩ = false := fun oo => (hx9.frozen (by omega)).trans (hFm_8 oo)
  have hBw_9 : Bx (w8.alloc (Obj.cells #[(.slice A_g1 ((irRun b m).regs).length c_g1), .int .i64 ((irRun b m).pc), (.slice A_g2 ((irRun b m).mem).length c_g2), .int .i64 ((irRun b m).save), .bool (irRun b m).lets, .bool (irRun b m).waits, .int .i64 ((irRun b m).halt), (.slice A_g3 ((irRun b m).ins).length c_g3), (.slice A_g4 ((irRun b m).outs).length c_g4), .int .i64 ((irRun b m).count)] 46)) (q_w) [(.slice A_w1 ((irRun b m).regs).length c_w1), .int .i64 ((irRun b m).pc), (.slice A_w2 ((irRun b m).mem).length c_w2), .int .i64 ((irRun b m).save), .bool (irRun b m).lets, .bool (irRun b m).waits, .int .i64 ((irRun b m).halt), (.slice A_w3 ((irRun b m).ins).length c_w3), (.slice A_w4 ((irRun b m).outs).length c_w4), .int .i64 ((irRun b m).count)] := hx9.bx hBw_8 (by omega)
  have hFw_9 : ∀ oo, ((w8.alloc (Obj.cells #[(.slice A_g1 ((irRun b m).regs).length c_g1), .int .i64 ((irRun b m).pc), (.slice A_g2 ((irRun b m).mem).length c_g2), .int .i64 ((irRun b m).save), .bool (irRun b m).lets, .bool (irRun b m).waits, .int .i64 ((irRun b m).halt), (.slice A_g3 ((irRun b m).ins).length c_g3), (.slice A_g4 ((irRun b m).outs).length c_g4), .int .i64 ((irRun b m).count)] 46))).frozen? ⟨q_w, oo, none⟩ = false := fun oo => (hx9.frozen (by omega)).trans (hFw_8 oo)
  have hBxb_9 : Bx (w8.alloc (Obj.cells #[(.slice A_g1 ((irRun b m).regs).length c_g1), .int .i64 ((irRun b m).pc), (.slice A_g2 ((irRun b m).mem).length c_g2), .int .i64 ((irRun b m).save), .bool (irRun b m).lets, .bool (irRun b m).waits, .int .i64 ((irRun b m).halt), (.slice A_g3 ((irRun b m).ins).length c_g3), (.slice A_g4 ((irRun b m).outs).length c_g4), .int .i64 ((irRun b m).count)] 46)) (w4.heap.size) [.int .i64 b.pc, .int .i64 b.len, (.slice A_xb1 (b.ops).length c_xb1), .int .i64 b.fin, .int .i64 b.x, .int .i64 b.y, .int .i64 b.k] := hx9.bx hBxb_8 (by omega)
  have hFxb_9 : ∀ oo, ((w8.alloc (Obj.cells #[(.slice A_g1 ((irRun b m).regs).length c_g1), .int .i64 ((irRun b m).pc), (.slice A_g2 ((irRun b m).mem).length c_g2), .int .i64 ((irRun b m).save), .bool (irRun b m).lets, .bool (irRun b m).waits, .int .i64 ((irRun b m).halt), (.slice A_g3 ((irRun b m).ins).length c_g3), (.slice A_g4 ((irRun b m).outs).length c_g4), .int .i64 ((irRun b m).count)] 46))).frozen? ⟨w4.heap.size, oo, none⟩ = false := fun oo => (hx9.frozen (by omega)).trans (hFxb_8 oo)
  have hBxm_9 : Bx (w8.alloc (Obj.cells #[(.slice A_g1 ((irRun b m).regs).length c_g1), .int .i64 ((irRun b m).pc), (.slice A_g2 ((irRun b m).mem).length c_g2), .int .i64 ((irRun b m).save), .bool (irRun b m).lets, .bool (irRun b m).waits, .int .i64 ((irRun b m).halt), (.slice A_g3 ((irRun b m).ins).length c_g3), (.slice A_g4 ((irRun b m).outs).length c_g4), .int .i64 ((irRun b m).count)] 46)) (w6.heap.size) [(.slice A_xm1 (m.regs).length c_xm1), .int .i64 m.pc, (.slice A_xm2 (m.mem).length c_xm2), .int .i64 m.save, .bool m.lets, .bool m.waits, .int .i64 m.halt, (.slice A_xm3 (m.ins).length c_xm3), (.slice A_xm4 (m.outs).length c_xm4), .int .i64 m.count] := hx9.bx hBxm_8 (by omega)
  have hFxm_9 : ∀ oo, ((w8.alloc (Obj.cells #[(.slice A_g1 ((irRun b m).regs).length c_g1), .int .i64 ((irRun b m).pc), (.slice A_g2 ((irRun b m).mem).length c_g2), .int .i64 ((irRun b m).save), .bool (irRun b m).lets, .bool (irRun b m).waits, .int .i64 ((irRun b m).halt), (.slice A_g3 ((irRun b m).ins).length c_g3), (.slice A_g4 ((irRun b m).outs).length c_g4), .int .i64 ((irRun b m).count)] 46))).frozen? ⟨w6.heap.size, oo, none⟩ = false := fun oo => (hx9.frozen (by omega)).trans (hFxm_8 oo)
  have hBg_9 : Bx (w8.alloc (Obj.cells #[(.slice A_g1 ((irRun b m).regs).length c_g1), .int .i64 ((irRun b m).pc), (.slice A_g2 ((irRun b m).mem).length c_g2), .int .i64 ((irRun b m).save), .bool (irRun b m).lets, .bool (irRun b m).waits, .int .i64 ((irRun b m).halt), (.slice A_g3 ((irRun b m).ins).length c_g3), (.slice A_g4 ((irRun b m).outs).length c_g4), .int .i64 ((irRun b m).count)] 46)) (w8.heap.size) [(.slice A_g1 ((irRun b m).regs).length c_g1), .int .i64 ((irRun b m).pc), (.slice A_g2 ((irRun b m).mem).length c_g2), .int .i64 ((irRun b m).save), .bool (irRun b m).lets, .bool (irRun b m).waits, .int .i64 ((irRun b m).halt), (.slice A_g3 ((irRun b m).ins).length c_g3), (.slice A_g4 ((irRun b m).outs).length c_g4), .int .i64 ((irRun b m).count)] := by have := (by have := (Bx.new w8 #[(.slice A_g1 ((irRun b m).regs).length c_g1), .int .i64 ((irRun b m).pc), (.slice A_g2 ((irRun b m).mem).length c_g2), .int .i64 ((irRun b m).save), .bool (irRun b m).lets, .bool (irRun b m).waits, .int .i64 ((irRun b m).halt), (.slice A_g3 ((irRun b m).ins).length c_g3), (.slice A_g4 ((irRun b m).outs).length c_g4), .int .i64 ((irRun b m).count)] 46); simpa using this); exact this
  have hFg_9 : ∀ oo, ((w8.alloc (Obj.cells #[(.slice A_g1 ((irRun b m).regs).length c_g1), .int .i64 ((irRun b m).pc), (.slice A_g2 ((irRun b m).mem).length c_g2), .int .i64 ((irRun b m).save), .bool (irRun b m).lets, .bool (irRun b m).waits, .int .i64 ((irRun b m).halt), (.slice A_g3 ((irRun b m).ins).length c_g3), (.slice A_g4 ((irRun b m).outs).length c_g4), .int .i64 ((irRun b m).count)] 46))).frozen? ⟨w8.heap.size, oo, none⟩ = false := fun oo => by simp
  generalize (w8.alloc (Obj.cells #[(.slice A_g1 ((irRun b m).regs).length c_g1), .int .i64 ((irRun b m).pc), (.slice A_g2 ((irRun b m).mem).length c_g2), .int .i64 ((irRun b m).save), .bool (irRun b m).lets, .bool (irRun b m).waits, .int .i64 ((irRun b m).halt), (.slice A_g3 ((irRun b m).ins).length c_g3), (.slice A_g4 ((irRun b m).outs).length c_g4), .int .i64 ((irRun b m).count)] 46)) = w9 at *
  clear hBb_8 hFb_8 hBm_8 hFm_8 hBw_8 hFw_8 hBxb_8 hFxb_8 hBxm_8 hFxm_8
  refine (eq_MchMach ((irRun b m)) ((irRun b m)) _ _ _ _ _ _ _ _  _ ((OwnSl.up ho_g1 (fr_g.inl.inl.inl.mk1 (Nat.le_refl _) (by omega)) hx9).old (fr_g.inl.inl.inl.mk1 (Nat.le_refl _) (by omega))) ((OwnSl.up ho_g2 (fr_g.inl.inl.inr.mk1 (Nat.le_refl _) (by omega)) hx9).old (fr_g.inl.inl.inr.mk1 (Nat.le_refl _) (by omega))) ((OwnSl.up ho_g3 (fr_g.inl.inr.mk1 (Nat.le_refl _) (by omega)) hx9).old (fr_g.inl.inr.mk1 (Nat.le_refl _) (by omega))) ((OwnSl.up ho_g4 (fr_g.inr.mk1 (Nat.le_refl _) (by omega)) hx9).old (fr_g.inr.mk1 (Nat.le_refl _) (by omega))) ((OwnSl.up ho_w1 (fr_w.inl.inl.inl.mk1 (Nat.le_refl _) (by omega)) (Ext.trans (Ext.trans (Ext.trans (Ext.trans (Ext.trans hx4 hx5) hx6) hx7) hx8) hx9)).old (fr_w.inl.inl.inl.mk1 (Nat.le_refl _) (by omega))) ((OwnSl.up ho_w2 (fr_w.inl.inl.inr.mk1 (Nat.le_refl _) (by omega)) (Ext.trans (Ext.trans (Ext.trans (Ext.trans (Ext.trans hx4 hx5) hx6) hx7) hx8) hx9)).old (fr_w.inl.inl.inr.mk1 (Nat.le_refl _) (by omega))) ((OwnSl.up ho_w3 (fr_w.inl.inr.mk1 (Nat.le_refl _) (by omega)) (Ext.trans (Ext.trans (Ext.trans (Ext.trans (Ext.trans hx4 hx5) hx6) hx7) hx8) hx9)).old (fr_w.inl.inr.mk1 (Nat.le_refl _) (by omega))) ((OwnSl.up ho_w4 (fr_w.inr.mk1 (Nat.le_refl _) (by omega)) (Ext.trans (Ext.trans (Ext.trans (Ext.trans (Ext.trans hx4 hx5) hx6) hx7) hx8) hx9)).old (fr_w.inr.mk1 (Nat.le_refl _) (by omega)))).mono ?_
  rintro e w10 ⟨rfl, hy⟩
  have hx10 : Ext w9 w10 := Ext.trans (Ext.auto) hy
  have hs10 := hx10.size
  have he10 : Ext w w10 := he9.trans hx10
  have hBb_10 : Bx w10 (w.heap.size) [.int .i64 b.pc, .int .i64 b.len, (.slice Ab1 b.ops.length cb1), .int .i64 b.fin, .int .i64 b.x, .int .i64 b.y, .int .i64 b.k] := hx10.bx hBb_9 (by omega)
  have hFb_10 : ∀ oo, w10.frozen? ⟨w.heap.size, oo, none⟩ = false := fun oo => (hx10.frozen (by omega)).trans (hFb_9 oo)
  have hBm_10 : Bx w10 (w.heap.size + 1) [(.slice Am1 m.regs.length cm1), .int .i64 m.pc, (.slice Am2 m.mem.length cm2), .int .i64 m.save, .bool m.lets, .bool m.waits, .int .i64 m.halt, (.slice Am3 m.ins.length cm3), (.slice Am4 m.outs.length cm4), .int .i64 m.count] := hx10.bx hBm_9 (by omega)
  have hFm_10 : ∀ oo, w10.frozen? ⟨w.heap.size + 1, oo, none⟩ = false := fun oo => (hx10.frozen (by omega)).trans (hFm_9 oo)
  have hBw_10 : Bx w10 (q_w) [(.slice A_w1 ((irRun b m).regs).length c_w1), .int .i64 ((irRun b m).pc), (.slice A_w2 ((irRun b m).mem).length c_w2), .int .i64 ((irRun b m).save), .bool (irRun b m).lets, .bool (irRun b m).waits, .int .i64 ((irRun b m).halt), (.slice A_w3 ((irRun b m).ins).length c_w3), (.slice A_w4 ((irRun b m).outs).length c_w4), .int .i64 ((irRun b m).count)] := hx10.bx hBw_9 (by omega)
  have hFw_10 : ∀ oo, w10.frozen? ⟨q_w, oo, none⟩ = false := fun oo => (hx10.frozen (by omega)).trans (hFw_9 oo)
  have hBxb_10 : Bx w10 (w4.heap.size) [.int .i64 b.pc, .int .i64 b.len, (.slice A_xb1 (b.ops).length c_xb1), .int .i64 b.fin, .int .i64 b.x, .int .i64 b.y, .int .i64 b.k] := hx10.bx hBxb_9 (by omega)
  have hFxb_10 : ∀ oo, w10.frozen? ⟨w4.heap.size, oo, none⟩ = false := fun oo => (hx10.frozen (by omega)).trans (hFxb_9 oo)
  have hBxm_10 : Bx w10 (w6.heap.size) [(.slice A_xm1 (m.regs).length c_xm1), .int .i64 m.pc, (.slice A_xm2 (m.mem).length c_xm2), .int .i64 m.save, .bool m.lets, .bool m.waits, .int .i64 m.halt, (.slice A_xm3 (m.ins).length c_xm3), (.slice A_xm4 (m.outs).length c_xm4), .int .i64 m.count] := hx10.bx hBxm_9 (by omega)
  have hFxm_10 : ∀ oo, w10.frozen? ⟨w6.heap.size, oo, none⟩ = false := fun oo => (hx10.frozen (by omega)).trans (hFxm_9 oo)
  have hBg_10 : Bx w10 (w8.heap.size) [(.slice A_g1 ((irRun b m).regs).length c_g1), .int .i64 ((irRun b m).pc), (.slice A_g2 ((irRun b m).mem).length c_g2), .int .i64 ((irRun b m).save), .bool (irRun b m).lets, .bool (irRun b m).waits, .int .i64 ((irRun b m).halt), (.slice A_g3 ((irRun b m).ins).length c_g3), (.slice A_g4 ((irRun b m).outs).length c_g4), .int .i64 ((irRun b m).count)] := hx10.bx hBg_9 (by omega)
  have hFg_10 : ∀ oo, w10.frozen? ⟨w8.heap.size, oo, none⟩ = false := fun oo => (hx10.frozen (by omega)).trans (hFg_9 oo)
  clear hBb_9 hFb_9 hBm_9 hFm_9 hBw_9 hFw_9 hBxb_9 hFxb_9 hBxm_9 hFxm_9 hBg_9 hFg_9
  clear hy
  go_wp2_with fail
  have yxb : w4.heap.size < w10.heap.size := by omega
  have xxb0 := hBxb_10 0 _ rfl
  have xxb1 := hBxb_10 1 _ rfl
  have xxb2 := hBxb_10 2 _ rfl
  have xxb3 := hBxb_10 3 _ rfl
  have xxb4 := hBxb_10 4 _ rfl
  have xxb5 := hBxb_10 5 _ rfl
  have xxb6 := hBxb_10 6 _ rfl
  have yb : w.heap.size < w10.heap.size := by omega
  have xb0 := hBb_10 0 _ rfl
  have xb1 := hBb_10 1 _ rfl
  have xb2 := hBb_10 2 _ rfl
  have xb3 := hBb_10 3 _ rfl
  have xb4 := hBb_10 4 _ rfl
  have xb5 := hBb_10 5 _ rfl
  have xb6 := hBb_10 6 _ rfl
  have hS : ∀ w', Ext w10 w' → ∀ bb oo, bb < w10.heap.size → w'.cell? ⟨bb, oo, none⟩ = w10.cell? ⟨bb, oo, none⟩ := fun w' hx bb oo hb => hx.cell hb
  refine wp_region_plan (fun w' => Ext w10 w') 3 (.float 0 (.float 1 (.chain 2 (.tail 3)))) (by kernel_rfl) (by kernel_rfl) (Ext.refl _).drew ?_
  iterate 2 ((refine Plan.float_step (v := ?_) rfl (by rfl) (fun _ _ _ h => h) (fun w' hSw => ?_) ?_; rotate_left; · (go_simp; try with_reducible rfl)); (try simp only [Act.put, List.setIfInBounds_toArray, List.set_cons_zero, List.set_cons_succ]))
  refine Plan.chain_step rfl (fun K hK => ?_)
  go_simp
  refine (to_IrBlock b _ _ (hb1.ext (Ext.trans he10 (Ext.auto))) nb).mono ?_
  rintro e w11 ⟨r_yb1, F_yb1, rfl, ho_yb1, hf_yb, hy⟩
  refine hK.out _ _ (Ext.trans (Ext.auto) hy) ?_
  clear hK
  (try simp only [Act.put, List.setIfInBounds_toArray, List.set_cons_zero, List.set_cons_succ])
  have hx11 : Ext w10 w11 := Ext.trans (Ext.auto) hy
  have hs11 := hx11.size
  have he11 : Ext w w11 := he10.trans hx11
  have hBb_11 : Bx w11 (w.heap.size) [.int .i64 b.pc, .int .i64 b.len, (.slice Ab1 b.ops.length cb1), .int .i64 b.fin, .int .i64 b.x, .int .i64 b.y, .int .i64 b.k] := hx11.bx hBb_10 (by omega)
  have hFb_11 : ∀ oo, w11.frozen? ⟨w.heap.size, oo, none⟩ = false := fun oo => (hx11.frozen (by omega)).trans (hFb_10 oo)
  have hBm_11 : Bx w11 (w.heap.size + 1) [(.slice Am1 m.regs.length cm1), .int .i64 m.pc, (.slice Am2 m.mem.length cm2), .int .i64 m.save, .bool m.lets, .bool m.waits, .int .i64 m.halt, (.slice Am3 m.ins.length cm3), (.slice Am4 m.outs.length cm4), .int .i64 m.count] := hx11.bx hBm_10 (by omega)
  have hFm_11 : ∀ oo, w11.frozen? ⟨w.heap.size + 1, oo, none⟩ = false := fun oo => (hx11.frozen (by omega)).trans (hFm_10 oo)
  have hBw_11 : Bx w11 (q_w) [(.slice A_w1 ((irRun b m).regs).length c_w1), .int .i64 ((irRun b m).pc), (.slice A_w2 ((irRun b m).mem).length c_w2), .int .i64 ((irRun b m).save), .bool (irRun b m).lets, .bool (irRun b m).waits, .int .i64 ((irRun b m).halt), (.slice A_w3 ((irRun b m).ins).length c_w3), (.slice A_w4 ((irRun b m).outs).length c_w4), .int .i64 ((irRun b m).count)] := hx11.bx hBw_10 (by omega)
  have hFw_11 : ∀ oo, w11.frozen? ⟨q_w, oo, none⟩ = false := fun oo => (hx11.frozen (by omega)).trans (hFw_10 oo)
  have hBxb_11 : Bx w11 (w4.heap.size) [.int .i64 b.pc, .int .i64 b.len, (.slice A_xb1 (b.ops).length c_xb1), .int .i64 b.fin, .int .i64 b.x, .int .i64 b.y, .int .i64 b.k] := hx11.bx hBxb_10 (by omega)
  have hFxb_11 : ∀ oo, w11.frozen? ⟨w4.heap.size, oo, none⟩ = false := fun oo => (hx11.frozen (by omega)).trans (hFxb_10 oo)
  have hBxm_11 : Bx w11 (w6.heap.size) [(.slice A_xm1 (m.regs).length c_xm1), .int .i64 m.pc, (.slice A_xm2 (m.mem).length c_xm2), .int .i64 m.save, .bool m.lets, .bool m.waits, .int .i64 m.halt, (.slice A_xm3 (m.ins).length c_xm3), (.slice A_xm4 (m.outs).length c_xm4), .int .i64 m.count] := hx11.bx hBxm_10 (by omega)
  have hFxm_11 : ∀ oo, w11.frozen? ⟨w6.heap.size, oo, none⟩ = false := fun oo => (hx11.frozen (by omega)).trans (hFxm_10 oo)
  have hBg_11 : Bx w11 (w8.heap.size) [(.slice A_g1 ((irRun b m).regs).length c_g1), .int .i64 ((irRun b m).pc), (.slice A_g2 ((irRun b m).mem).length c_g2), .int .i64 ((irRun b m).save), .bool (irRun b m).lets, .bool (irRun b m).waits, .int .i64 ((irRun b m).halt), (.slice A_g3 ((irRun b m).ins).length c_g3), (.slice A_g4 ((irRun b m).outs).length c_g4), .int .i64 ((irRun b m).count)] := hx11.bx hBg_10 (by omega)
  have hFg_11 : ∀ oo, w11.frozen? ⟨w8.heap.size, oo, none⟩ = false := fun oo => (hx11.frozen (by omega)).trans (hFg_10 oo)
  clear hBb_10 hFb_10 hBm_10 hFm_10 hBw_10 hFw_10 hBxb_10 hFxb_10 hBxm_10 hFxm_10 hBg_10 hFg_10
  clear hy
  obtain ⟨A_yb1, c_yb1, rfl, -, -⟩ := ho_yb1.sl.form
  have fr_yb : Fr w10 w11 (F_yb1) := hf_yb.mk1 (by first | exact Nat.le_refl _ | (simp; done)) (Nat.le_refl _)
  clear hf_yb
  refine Plan.tail_step ?_
  simp only [List.drop_succ_cons, List.drop_zero]
  clear hS
  clear xxb0 xxb1 xxb2 xxb3 xxb4 xxb5 xxb6 yxb
  clear xb0 xb1 xb2 xb3 xb4 xb5 xb6 yb
  go_wp2_with fail
  refine (eq_IrBlock b b _ _  _ ((OwnSl.up ho_xb1 (fr_xb.mk1 (Nat.le_refl _) (by omega)) (Ext.trans (Ext.trans (Ext.trans (Ext.trans (Ext.trans (Ext.trans hx5 hx6) hx7) hx8) hx9) hx10) hx11)).old (fr_xb.mk1 (Nat.le_refl _) (by omega))) ((OwnSl.up ho_yb1 (fr_yb.mk1 (Nat.le_refl _) (by omega)) (Ext.refl _)).old (fr_yb.mk1 (Nat.le_refl _) (by omega)))).mono ?_
  rintro e w12 ⟨rfl, hy⟩
  have hx12 : Ext w11 w12 := Ext.trans (Ext.auto) hy
  have hs12 := hx12.size
  have he12 : Ext w w12 := he11.trans hx12
  have hBb_12 : Bx w12 (w.heap.size) [.int .i64 b.pc, .int .i64 b.len, (.slice Ab1 b.ops.length cb1), .int .i64 b.fin, .int .i64 b.x, .int .i64 b.y, .int .i64 b.k] := hx12.bx hBb_11 (by omega)
  have hFb_12 : ∀ oo, w12.frozen? ⟨w.heap.size, oo, none⟩ = false := fun oo => (hx12.frozen (by omega)).trans (hFb_11 oo)
  have hBm_12 : Bx w12 (w.heap.size + 1) [(.slice Am1 m.regs.length cm1), .int .i64 m.pc, (.slice Am2 m.mem.length cm2), .int .i64 m.save, .bool m.lets, .bool m.waits, .int .i64 m.halt, (.slice Am3 m.ins.length cm3), (.slice Am4 m.outs.length cm4), .int .i64 m.count] := hx12.bx hBm_11 (by omega)
  have hFm_12 : ∀ oo, w12.frozen? ⟨w.heap.size + 1, oo, none⟩ = false := fun oo => (hx12.frozen (by omega)).trans (hFm_11 oo)
  have hBw_12 : Bx w12 (q_w) [(.slice A_w1 ((irRun b m).regs).length c_w1), .int .i64 ((irRun b m).pc), (.slice A_w2 ((irRun b m).mem).length c_w2), .int .i64 ((irRun b m).save), .bool (irRun b m).lets, .bool (irRun b m).waits, .int .i64 ((irRun b m).halt), (.slice A_w3 ((irRun b m).ins).length c_w3), (.slice A_w4 ((irRun b m).outs).length c_w4), .int .i64 ((irRun b m).count)] := hx12.bx hBw_11 (by omega)
  have hFw_12 : ∀ oo, w12.frozen? ⟨q_w, oo, none⟩ = false := fun oo => (hx12.frozen (by omega)).trans (hFw_11 oo)
  have hBxb_12 : Bx w12 (w4.heap.size) [.int .i64 b.pc, .int .i64 b.len, (.slice A_xb1 (b.ops).length c_xb1), .int .i64 b.fin, .int .i64 b.x, .int .i64 b.y, .int .i64 b.k] := hx12.bx hBxb_11 (by omega)
  have hFxb_12 : ∀ oo, w12.frozen? ⟨w4.heap.size, oo, none⟩ = false := fun oo => (hx12.frozen (by omega)).trans (hFxb_11 oo)
  have hBxm_12 : Bx w12 (w6.heap.size) [(.slice A_xm1 (m.regs).length c_xm1), .int .i64 m.pc, (.slice A_xm2 (m.mem).length c_xm2), .int .i64 m.save, .bool m.lets, .bool m.waits, .int .i64 m.halt, (.slice A_xm3 (m.ins).length c_xm3), (.slice A_xm4 (m.outs).length c_xm4), .int .i64 m.count] := hx12.bx hBxm_11 (by omega)
  have hFxm_12 : ∀ oo, w12.frozen? ⟨w6.heap.size, oo, none⟩ = false := fun oo => (hx12.frozen (by omega)).trans (hFxm_11 oo)
  have hBg_12 : Bx w12 (w8.heap.size) [(.slice A_g1 ((irRun b m).regs).length c_g1), .int .i64 ((irRun b m).pc), (.slice A_g2 ((irRun b m).mem).length c_g2), .int .i64 ((irRun b m).save), .bool (irRun b m).lets, .bool (irRun b m).waits, .int .i64 ((irRun b m).halt), (.slice A_g3 ((irRun b m).ins).length c_g3), (.slice A_g4 ((irRun b m).outs).length c_g4), .int .i64 ((irRun b m).count)] := hx12.bx hBg_11 (by omega)
  have hFg_12 : ∀ oo, w12.frozen? ⟨w8.heap.size, oo, none⟩ = false := fun oo => (hx12.frozen (by omega)).trans (hFg_11 oo)
  clear hBb_11 hFb_11 hBm_11 hFm_11 hBw_11 hFw_11 hBxb_11 hFxb_11 hBxm_11 hFxm_11 hBg_11 hFg_11
  clear hy
  clear ho_yb1 fr_yb
  go_wp2_with fail
  have yxm : w6.heap.size < w12.heap.size := by omega
  have xxm0 := hBxm_12 0 _ rfl
  have xxm1 := hBxm_12 1 _ rfl
  have xxm2 := hBxm_12 2 _ rfl
  have xxm3 := hBxm_12 3 _ rfl
  have xxm4 := hBxm_12 4 _ rfl
  have xxm5 := hBxm_12 5 _ rfl
  have xxm6 := hBxm_12 6 _ rfl
  have xxm7 := hBxm_12 7 _ rfl
  have xxm8 := hBxm_12 8 _ rfl
  have xxm9 := hBxm_12 9 _ rfl
  have ym : w.heap.size + 1 < w12.heap.size := by omega
  have xm0 := hBm_12 0 _ rfl
  have xm1 := hBm_12 1 _ rfl
  have xm2 := hBm_12 2 _ rfl
  have xm3 := hBm_12 3 _ rfl
  have xm4 := hBm_12 4 _ rfl
  have xm5 := hBm_12 5 _ rfl
  have xm6 := hBm_12 6 _ rfl
  have xm7 := hBm_12 7 _ rfl
  have xm8 := hBm_12 8 _ rfl
  have xm9 := hBm_12 9 _ rfl
  have hS : ∀ w', Ext w12 w' → ∀ bb oo, bb < w12.heap.size → w'.cell? ⟨bb, oo, none⟩ = w12.cell? ⟨bb, oo, none⟩ := fun w' hx bb oo hb => hx.cell hb
  refine wp_region_plan (fun w' => Ext w12 w') 3 (.float 0 (.float 1 (.chain 2 (.tail 3)))) (by kernel_rfl) (by kernel_rfl) (Ext.refl _).drew ?_
  iterate 2 ((refine Plan.float_step (v := ?_) rfl (by rfl) (fun _ _ _ h => h) (fun w' hSw => ?_) ?_; rotate_left; · (go_simp; try with_reducible rfl)); (try simp only [Act.put, List.setIfInBounds_toArray, List.set_cons_zero, List.set_cons_succ]))
  refine Plan.chain_step rfl (fun K hK => ?_)
  go_simp
  refine (to_MchMach m _ _ _ _ _ (hm1.ext (Ext.trans he12 (Ext.auto))) (hm2.ext (Ext.trans he12 (Ext.auto))) (hm3.ext (Ext.trans he12 (Ext.auto))) (hm4.ext (Ext.trans he12 (Ext.auto))) nm).mono ?_
  rintro e w13 ⟨r_ym1, r_ym2, r_ym3, r_ym4, F_ym1, F_ym2, F_ym3, F_ym4, rfl, ho_ym1, ho_ym2, ho_ym3, ho_ym4, hf_ym, hy⟩
  refine hK.out _ _ (Ext.trans (Ext.auto) hy) ?_
  clear hK
  (try simp only [Act.put, List.setIfInBounds_toArray, List.set_cons_zero, List.set_cons_succ])
  have hx13 : Ext w12 w13 := Ext.trans (Ext.auto) hy
  have hs13 := hx13.size
  have he13 : Ext w w13 := he12.trans hx13
  have hBb_13 : Bx w13 (w.heap.size) [.int .i64 b.pc, .int .i64 b.len, (.slice Ab1 b.ops.length cb1), .int .i64 b.fin, .int .i64 b.x, .int .i64 b.y, .int .i64 b.k] := hx13.bx hBb_12 (by omega)
  have hFb_13 : ∀ oo, w13.frozen? ⟨w.heap.size, oo, none⟩ = false := fun oo => (hx13.frozen (by omega)).trans (hFb_12 oo)
  have hBm_13 : Bx w13 (w.heap.size + 1) [(.slice Am1 m.regs.length cm1), .int .i64 m.pc, (.slice Am2 m.mem.length cm2), .int .i64 m.save, .bool m.lets, .bool m.waits, .int .i64 m.halt, (.slice Am3 m.ins.length cm3), (.slice Am4 m.outs.length cm4), .int .i64 m.count] := hx13.bx hBm_12 (by omega)
  have hFm_13 : ∀ oo, w13.frozen? ⟨w.heap.size + 1, oo, none⟩ = false := fun oo => (hx13.frozen (by omega)).trans (hFm_12 oo)
  have hBw_13 : Bx w13 (q_w) [(.slice A_w1 ((irRun b m).regs).length c_w1), .int .i64 ((irRun b m).pc), (.slice A_w2 ((irRun b m).mem).length c_w2), .int .i64 ((irRun b m).save), .bool (irRun b m).lets, .bool (irRun b m).waits, .int .i64 ((irRun b m).halt), (.slice A_w3 ((irRun b m).ins).length c_w3), (.slice A_w4 ((irRun b m).outs).length c_w4), .int .i64 ((irRun b m).count)] := hx13.bx hBw_12 (by omega)
  have hFw_13 : ∀ oo, w13.frozen? ⟨q_w, oo, none⟩ = false := fun oo => (hx13.frozen (by omega)).trans (hFw_12 oo)
  have hBxb_13 : Bx w13 (w4.heap.size) [.int .i64 b.pc, .int .i64 b.len, (.slice A_xb1 (b.ops).length c_xb1), .int .i64 b.fin, .int .i64 b.x, .int .i64 b.y, .int .i64 b.k] := hx13.bx hBxb_12 (by omega)
  have hFxb_13 : ∀ oo, w13.frozen? ⟨w4.heap.size, oo, none⟩ = false := fun oo => (hx13.frozen (by omega)).trans (hFxb_12 oo)
  have hBxm_13 : Bx w13 (w6.heap.size) [(.slice A_xm1 (m.regs).length c_xm1), .int .i64 m.pc, (.slice A_xm2 (m.mem).length c_xm2), .int .i64 m.save, .bool m.lets, .bool m.waits, .int .i64 m.halt, (.slice A_xm3 (m.ins).length c_xm3), (.slice A_xm4 (m.outs).length c_xm4), .int .i64 m.count] := hx13.bx hBxm_12 (by omega)
  have hFxm_13 : ∀ oo, w13.frozen? ⟨w6.heap.size, oo, none⟩ = false := fun oo => (hx13.frozen (by omega)).trans (hFxm_12 oo)
  have hBg_13 : Bx w13 (w8.heap.size) [(.slice A_g1 ((irRun b m).regs).length c_g1), .int .i64 ((irRun b m).pc), (.slice A_g2 ((irRun b m).mem).length c_g2), .int .i64 ((irRun b m).save), .bool (irRun b m).lets, .bool (irRun b m).waits, .int .i64 ((irRun b m).halt), (.slice A_g3 ((irRun b m).ins).length c_g3), (.slice A_g4 ((irRun b m).outs).length c_g4), .int .i64 ((irRun b m).count)] := hx13.bx hBg_12 (by omega)
  have hFg_13 : ∀ oo, w13.frozen? ⟨w8.heap.size, oo, none⟩ = false := fun oo => (hx13.frozen (by omega)).trans (hFg_12 oo)
  clear hBb_12 hFb_12 hBm_12 hFm_12 hBw_12 hFw_12 hBxb_12 hFxb_12 hBxm_12 hFxm_12 hBg_12 hFg_12
  clear hy
  obtain ⟨A_ym1, c_ym1, rfl, -, -⟩ := ho_ym1.sl.form
  obtain ⟨A_ym2, c_ym2, rfl, -, -⟩ := ho_ym2.sl.form
  obtain ⟨A_ym3, c_ym3, rfl, -, -⟩ := ho_ym3.sl.form
  obtain ⟨A_ym4, c_ym4, rfl, -, -⟩ := ho_ym4.sl.form
  have fr_ym : Fr w12 w13 (F_ym1 ++ F_ym2 ++ F_ym3 ++ F_ym4) := hf_ym.mk1 (by first | exact Nat.le_refl _ | (simp; done)) (Nat.le_refl _)
  clear hf_ym
  refine Plan.tail_step ?_
  simp only [List.drop_succ_cons, List.drop_zero]
  clear hS
  clear xxm0 xxm1 xxm2 xxm3 xxm4 xxm5 xxm6 xxm7 xxm8 xxm9 yxm
  clear xm0 xm1 xm2 xm3 xm4 xm5 xm6 xm7 xm8 xm9 ym
  go_wp2_with fail
  refine (eq_MchMach m m _ _ _ _ _ _ _ _  _ ((OwnSl.up ho_xm1 (fr_xm.inl.inl.inl.mk1 (Nat.le_refl _) (by omega)) (Ext.trans (Ext.trans (Ext.trans (Ext.trans (Ext.trans (Ext.trans hx7 hx8) hx9) hx10) hx11) hx12) hx13)).old (fr_xm.inl.inl.inl.mk1 (Nat.le_refl _) (by omega))) ((OwnSl.up ho_xm2 (fr_xm.inl.inl.inr.mk1 (Nat.le_refl _) (by omega)) (Ext.trans (Ext.trans (Ext.trans (Ext.trans (Ext.trans (Ext.trans hx7 hx8) hx9) hx10) hx11) hx12) hx13)).old (fr_xm.inl.inl.inr.mk1 (Nat.le_refl _) (by omega))) ((OwnSl.up ho_xm3 (fr_xm.inl.inr.mk1 (Nat.le_refl _) (by omega)) (Ext.trans (Ext.trans (Ext.trans (Ext.trans (Ext.trans (Ext.trans hx7 hx8) hx9) hx10) hx11) hx12) hx13)).old (fr_xm.inl.inr.mk1 (Nat.le_refl _) (by omega))) ((OwnSl.up ho_xm4 (fr_xm.inr.mk1 (Nat.le_refl _) (by omega)) (Ext.trans (Ext.trans (Ext.trans (Ext.trans (Ext.trans (Ext.trans hx7 hx8) hx9) hx10) hx11) hx12) hx13)).old (fr_xm.inr.mk1 (Nat.le_refl _) (by omega))) ((OwnSl.up ho_ym1 (fr_ym.inl.inl.inl.mk1 (Nat.le_refl _) (by omega)) (Ext.refl _)).old (fr_ym.inl.inl.inl.mk1 (Nat.le_refl _) (by omega))) ((OwnSl.up ho_ym2 (fr_ym.inl.inl.inr.mk1 (Nat.le_refl _) (by omega)) (Ext.refl _)).old (fr_ym.inl.inl.inr.mk1 (Nat.le_refl _) (by omega))) ((OwnSl.up ho_ym3 (fr_ym.inl.inr.mk1 (Nat.le_refl _) (by omega)) (Ext.refl _)).old (fr_ym.inl.inr.mk1 (Nat.le_refl _) (by omega))) ((OwnSl.up ho_ym4 (fr_ym.inr.mk1 (Nat.le_refl _) (by omega)) (Ext.refl _)).old (fr_ym.inr.mk1 (Nat.le_refl _) (by omega)))).mono ?_
  rintro e w14 ⟨rfl, hy⟩
  have hx14 : Ext w13 w14 := Ext.trans (Ext.auto) hy
  have hs14 := hx14.size
  have he14 : Ext w w14 := he13.trans hx14
  have hBb_14 : Bx w14 (w.heap.size) [.int .i64 b.pc, .int .i64 b.len, (.slice Ab1 b.ops.length cb1), .int .i64 b.fin, .int .i64 b.x, .int .i64 b.y, .int .i64 b.k] := hx14.bx hBb_13 (by omega)
  have hFb_14 : ∀ oo, w14.frozen? ⟨w.heap.size, oo, none⟩ = false := fun oo => (hx14.frozen (by omega)).trans (hFb_13 oo)
  have hBm_14 : Bx w14 (w.heap.size + 1) [(.slice Am1 m.regs.length cm1), .int .i64 m.pc, (.slice Am2 m.mem.length cm2), .int .i64 m.save, .bool m.lets, .bool m.waits, .int .i64 m.halt, (.slice Am3 m.ins.length cm3), (.slice Am4 m.outs.length cm4), .int .i64 m.count] := hx14.bx hBm_13 (by omega)
  have hFm_14 : ∀ oo, w14.frozen? ⟨w.heap.size + 1, oo, none⟩ = false := fun oo => (hx14.frozen (by omega)).trans (hFm_13 oo)
  have hBw_14 : Bx w14 (q_w) [(.slice A_w1 ((irRun b m).regs).length c_w1), .int .i64 ((irRun b m).pc), (.slice A_w2 ((irRun b m).mem).length c_w2), .int .i64 ((irRun b m).save), .bool (irRun b m).lets, .bool (irRun b m).waits, .int .i64 ((irRun b m).halt), (.slice A_w3 ((irRun b m).ins).length c_w3), (.slice A_w4 ((irRun b m).outs).length c_w4), .int .i64 ((irRun b m).count)] := hx14.bx hBw_13 (by omega)
  have hFw_14 : ∀ oo, w14.frozen? ⟨q_w, oo, none⟩ = false := fun oo => (hx14.frozen (by omega)).trans (hFw_13 oo)
  have hBxb_14 : Bx w14 (w4.heap.size) [.int .i64 b.pc, .int .i64 b.len, (.slice A_xb1 (b.ops).length c_xb1), .int .i64 b.fin, .int .i64 b.x, .int .i64 b.y, .int .i64 b.k] := hx14.bx hBxb_13 (by omega)
  have hFxb_14 : ∀ oo, w14.frozen? ⟨w4.heap.size, oo, none⟩ = false := fun oo => (hx14.frozen (by omega)).trans (hFxb_13 oo)
  have hBxm_14 : Bx w14 (w6.heap.size) [(.slice A_xm1 (m.regs).length c_xm1), .int .i64 m.pc, (.slice A_xm2 (m.mem).length c_xm2), .int .i64 m.save, .bool m.lets, .bool m.waits, .int .i64 m.halt, (.slice A_xm3 (m.ins).length c_xm3), (.slice A_xm4 (m.outs).length c_xm4), .int .i64 m.count] := hx14.bx hBxm_13 (by omega)
  have hFxm_14 : ∀ oo, w14.frozen? ⟨w6.heap.size, oo, none⟩ = false := fun oo => (hx14.frozen (by omega)).trans (hFxm_13 oo)
  have hBg_14 : Bx w14 (w8.heap.size) [(.slice A_g1 ((irRun b m).regs).length c_g1), .int .i64 ((irRun b m).pc), (.slice A_g2 ((irRun b m).mem).length c_g2), .int .i64 ((irRun b m).save), .bool (irRun b m).lets, .bool (irRun b m).waits, .int .i64 ((irRun b m).halt), (.slice A_g3 ((irRun b m).ins).length c_g3), (.slice A_g4 ((irRun b m).outs).length c_g4), .int .i64 ((irRun b m).count)] := hx14.bx hBg_13 (by omega)
  have hFg_14 : ∀ oo, w14.frozen? ⟨w8.heap.size, oo, none⟩ = false := fun oo => (hx14.frozen (by omega)).trans (hFg_13 oo)
  clear hBb_13 hFb_13 hBm_13 hFm_13 hBw_13 hFw_13 hBxb_13 hFxb_13 hBxm_13 hFxm_13 hBg_13 hFg_13
  clear hy
  clear ho_ym1 ho_ym2 ho_ym3 ho_ym4 fr_ym
  have hct_xb := IrBlock.ctV_le (b)
  have yxb : w4.heap.size < w14.heap.size := by omega
  have xxb0 := hBxb_14 0 _ rfl
  have xxb1 := hBxb_14 1 _ rfl
  have xxb2 := hBxb_14 2 _ rfl
  have xxb3 := hBxb_14 3 _ rfl
  have xxb4 := hBxb_14 4 _ rfl
  have xxb5 := hBxb_14 5 _ rfl
  have xxb6 := hBxb_14 6 _ rfl
  go_wp2_with fail
  clear xxb0 xxb1 xxb2 xxb3 xxb4 xxb5 xxb6 yxb
  refine (mark_IrBlock (b) _ _ (1) _ (OwnSl.up ho_xb1 (fr_xb.mk1 (Nat.le_refl _) (by omega)) (Ext.trans (Ext.trans (Ext.trans (Ext.trans (Ext.trans (Ext.trans (Ext.trans (Ext.trans (Ext.trans hx5 hx6) hx7) hx8) hx9) hx10) hx11) hx12) hx13) hx14)) fr_xb.1 (fun x hx => by have := (fr_xb.2 x hx).2; omega) (by omega) (by omega)).mono ?_
  rintro e w15 ⟨rfl, hm_xb1, hy⟩
  have hc15 : Chg F_xb1 w14 w15 := hy
  have hs15 := hc15.size
  have he15 : Ext w w15 := Chg.ext he14 hc15 (fun x hx => by have := (fr_xb.2 x hx).1; omega)
  have hBb_15 : Bx w15 (w.heap.size) [.int .i64 b.pc, .int .i64 b.len, (.slice Ab1 b.ops.length cb1), .int .i64 b.fin, .int .i64 b.x, .int .i64 b.y, .int .i64 b.k] := fun j u hu => (hc15.cell (by omega) (by intro hm; have := (fr_xb.2 _ hm); have h1 := this.1; have h2 := this.2; omega)).trans (hBb_14 j u hu)
  have hFb_15 : ∀ oo, w15.frozen? ⟨w.heap.size, oo, none⟩ = false := fun oo => (hc15.frozen _ _ (by omega)).trans (hFb_14 oo)
  have hBm_15 : Bx w15 (w.heap.size + 1) [(.slice Am1 m.regs.length cm1), .int .i64 m.pc, (.slice Am2 m.mem.length cm2), .int .i64 m.save, .bool m.lets, .bool m.waits, .int .i64 m.halt, (.slice Am3 m.ins.length cm3), (.slice Am4 m.outs.length cm4), .int .i64 m.count] := fun j u hu => (hc15.cell (by omega) (by intro hm; have := (fr_xb.2 _ hm); have h1 := this.1; have h2 := this.2; omega)).trans (hBm_14 j u hu)
  have hFm_15 : ∀ oo, w15.frozen? ⟨w.heap.size + 1, oo, none⟩ = false := fun oo => (hc15.frozen _ _ (by omega)).trans (hFm_14 oo)
  have hBw_15 : Bx w15 (q_w) [(.slice A_w1 ((irRun b m).regs).length c_w1), .int .i64 ((irRun b m).pc), (.slice A_w2 ((irRun b m).mem).length c_w2), .int .i64 ((irRun b m).save), .bool (irRun b m).lets, .bool (irRun b m).waits, .int .i64 ((irRun b m).halt), (.slice A_w3 ((irRun b m).ins).length c_w3), (.slice A_w4 ((irRun b m).outs).length c_w4), .int .i64 ((irRun b m).count)] := fun j u hu => (hc15.cell (by omega) (by intro hm; have := (fr_xb.2 _ hm); have h1 := this.1; have h2 := this.2; omega)).trans (hBw_14 j u hu)
  have hFw_15 : ∀ oo, w15.frozen? ⟨q_w, oo, none⟩ = false := fun oo => (hc15.frozen _ _ (by omega)).trans (hFw_14 oo)
  have hBxb_15 : Bx w15 (w4.heap.size) [.int .i64 b.pc, .int .i64 b.len, (.slice A_xb1 (b.ops).length c_xb1), .int .i64 b.fin, .int .i64 b.x, .int .i64 b.y, .int .i64 b.k] := fun j u hu => (hc15.cell (by omega) (by intro hm; have := (fr_xb.2 _ hm); have h1 := this.1; have h2 := this.2; omega)).trans (hBxb_14 j u hu)
  have hFxb_15 : ∀ oo, w15.frozen? ⟨w4.heap.size, oo, none⟩ = false := fun oo => (hc15.frozen _ _ (by omega)).trans (hFxb_14 oo)
  have hBxm_15 : Bx w15 (w6.heap.size) [(.slice A_xm1 (m.regs).length c_xm1), .int .i64 m.pc, (.slice A_xm2 (m.mem).length c_xm2), .int .i64 m.save, .bool m.lets, .bool m.waits, .int .i64 m.halt, (.slice A_xm3 (m.ins).length c_xm3), (.slice A_xm4 (m.outs).length c_xm4), .int .i64 m.count] := fun j u hu => (hc15.cell (by omega) (by intro hm; have := (fr_xb.2 _ hm); have h1 := this.1; have h2 := this.2; omega)).trans (hBxm_14 j u hu)
  have hFxm_15 : ∀ oo, w15.frozen? ⟨w6.heap.size, oo, none⟩ = false := fun oo => (hc15.frozen _ _ (by omega)).trans (hFxm_14 oo)
  have hBg_15 : Bx w15 (w8.heap.size) [(.slice A_g1 ((irRun b m).regs).length c_g1), .int .i64 ((irRun b m).pc), (.slice A_g2 ((irRun b m).mem).length c_g2), .int .i64 ((irRun b m).save), .bool (irRun b m).lets, .bool (irRun b m).waits, .int .i64 ((irRun b m).halt), (.slice A_g3 ((irRun b m).ins).length c_g3), (.slice A_g4 ((irRun b m).outs).length c_g4), .int .i64 ((irRun b m).count)] := fun j u hu => (hc15.cell (by omega) (by intro hm; have := (fr_xb.2 _ hm); have h1 := this.1; have h2 := this.2; omega)).trans (hBg_14 j u hu)
  have hFg_15 : ∀ oo, w15.frozen? ⟨w8.heap.size, oo, none⟩ = false := fun oo => (hc15.frozen _ _ (by omega)).trans (hFg_14 oo)
  clear hBb_14 hFb_14 hBm_14 hFm_14 hBw_14 hFw_14 hBxb_14 hFxb_14 hBxm_14 hFxm_14 hBg_14 hFg_14
  have ho_w1' := (OwnSl.up ho_w1 (fr_w.inl.inl.inl.mk1 (Nat.le_refl _) (by omega)) (Ext.trans (Ext.trans (Ext.trans (Ext.trans (Ext.trans (Ext.trans (Ext.trans (Ext.trans (Ext.trans (Ext.trans hx4 hx5) hx6) hx7) hx8) hx9) hx10) hx11) hx12) hx13) hx14)).past fr_w.inl.inl.inl (by omega) hc15 (fun x hx => (fr_w.apart fr_xb (by omega)) x (by simp [hx]))
  clear ho_w1
  have ho_w1 := ho_w1'
  clear ho_w1'
  have ho_w2' := (OwnSl.up ho_w2 (fr_w.inl.inl.inr.mk1 (Nat.le_refl _) (by omega)) (Ext.trans (Ext.trans (Ext.trans (Ext.trans (Ext.trans (Ext.trans (Ext.trans (Ext.trans (Ext.trans (Ext.trans hx4 hx5) hx6) hx7) hx8) hx9) hx10) hx11) hx12) hx13) hx14)).past fr_w.inl.inl.inr (by omega) hc15 (fun x hx => (fr_w.apart fr_xb (by omega)) x (by simp [hx]))
  clear ho_w2
  have ho_w2 := ho_w2'
  clear ho_w2'
  have ho_w3' := (OwnSl.up ho_w3 (fr_w.inl.inr.mk1 (Nat.le_refl _) (by omega)) (Ext.trans (Ext.trans (Ext.trans (Ext.trans (Ext.trans (Ext.trans (Ext.trans (Ext.trans (Ext.trans (Ext.trans hx4 hx5) hx6) hx7) hx8) hx9) hx10) hx11) hx12) hx13) hx14)).past fr_w.inl.inr (by omega) hc15 (fun x hx => (fr_w.apart fr_xb (by omega)) x (by simp [hx]))
  clear ho_w3
  have ho_w3 := ho_w3'
  clear ho_w3'
  have ho_w4' := (OwnSl.up ho_w4 (fr_w.inr.mk1 (Nat.le_refl _) (by omega)) (Ext.trans (Ext.trans (Ext.trans (Ext.trans (Ext.trans (Ext.trans (Ext.trans (Ext.trans (Ext.trans (Ext.trans hx4 hx5) hx6) hx7) hx8) hx9) hx10) hx11) hx12) hx13) hx14)).past fr_w.inr (by omega) hc15 (fun x hx => (fr_w.apart fr_xb (by omega)) x (by simp [hx]))
  clear ho_w4
  have ho_w4 := ho_w4'
  clear ho_w4'
  have ho_xm1' := (OwnSl.up ho_xm1 (fr_xm.inl.inl.inl.mk1 (Nat.le_refl _) (by omega)) (Ext.trans (Ext.trans (Ext.trans (Ext.trans (Ext.trans (Ext.trans (Ext.trans hx7 hx8) hx9) hx10) hx11) hx12) hx13) hx14)).past fr_xm.inl.inl.inl (by omega) hc15 (fun x hx => (fr_xm.apart' fr_xb (by omega)) x (by simp [hx]))
  clear ho_xm1
  have ho_xm1 := ho_xm1'
  clear ho_xm1'
  have ho_xm2' := (OwnSl.up ho_xm2 (fr_xm.inl.inl.inr.mk1 (Nat.le_refl _) (by omega)) (Ext.trans (Ext.trans (Ext.trans (Ext.trans (Ext.trans (Ext.trans (Ext.trans hx7 hx8) hx9) hx10) hx11) hx12) hx13) hx14)).past fr_xm.inl.inl.inr (by omega) hc15 (fun x hx => (fr_xm.apart' fr_xb (by omega)) x (by simp [hx]))
  clear ho_xm2
  have ho_xm2 := ho_xm2'
  clear ho_xm2'
  have ho_xm3' := (OwnSl.up ho_xm3 (fr_xm.inl.inr.mk1 (Nat.le_refl _) (by omega)) (Ext.trans (Ext.trans (Ext.trans (Ext.trans (Ext.trans (Ext.trans (Ext.trans hx7 hx8) hx9) hx10) hx11) hx12) hx13) hx14)).past fr_xm.inl.inr (by omega) hc15 (fun x hx => (fr_xm.apart' fr_xb (by omega)) x (by simp [hx]))
  clear ho_xm3
  have ho_xm3 := ho_xm3'
  clear ho_xm3'
  have ho_xm4' := (OwnSl.up ho_xm4 (fr_xm.inr.mk1 (Nat.le_refl _) (by omega)) (Ext.trans (Ext.trans (Ext.trans (Ext.trans (Ext.trans (Ext.trans (Ext.trans hx7 hx8) hx9) hx10) hx11) hx12) hx13) hx14)).past fr_xm.inr (by omega) hc15 (fun x hx => (fr_xm.apart' fr_xb (by omega)) x (by simp [hx]))
  clear ho_xm4
  have ho_xm4 := ho_xm4'
  clear ho_xm4'
  have ho_g1' := (OwnSl.up ho_g1 (fr_g.inl.inl.inl.mk1 (Nat.le_refl _) (by omega)) (Ext.trans (Ext.trans (Ext.trans (Ext.trans (Ext.trans hx9 hx10) hx11) hx12) hx13) hx14)).past fr_g.inl.inl.inl (by omega) hc15 (fun x hx => (fr_g.apart' fr_xb (by omega)) x (by simp [hx]))
  clear ho_g1
  have ho_g1 := ho_g1'
  clear ho_g1'
  have ho_g2' := (OwnSl.up ho_g2 (fr_g.inl.inl.inr.mk1 (Nat.le_refl _) (by omega)) (Ext.trans (Ext.trans (Ext.trans (Ext.trans (Ext.trans hx9 hx10) hx11) hx12) hx13) hx14)).past fr_g.inl.inl.inr (by omega) hc15 (fun x hx => (fr_g.apart' fr_xb (by omega)) x (by simp [hx]))
  clear ho_g2
  have ho_g2 := ho_g2'
  clear ho_g2'
  have ho_g3' := (OwnSl.up ho_g3 (fr_g.inl.inr.mk1 (Nat.le_refl _) (by omega)) (Ext.trans (Ext.trans (Ext.trans (Ext.trans (Ext.trans hx9 hx10) hx11) hx12) hx13) hx14)).past fr_g.inl.inr (by omega) hc15 (fun x hx => (fr_g.apart' fr_xb (by omega)) x (by simp [hx]))
  clear ho_g3
  have ho_g3 := ho_g3'
  clear ho_g3'
  have ho_g4' := (OwnSl.up ho_g4 (fr_g.inr.mk1 (Nat.le_refl _) (by omega)) (Ext.trans (Ext.trans (Ext.trans (Ext.trans (Ext.trans hx9 hx10) hx11) hx12) hx13) hx14)).past fr_g.inr (by omega) hc15 (fun x hx => (fr_g.apart' fr_xb (by omega)) x (by simp [hx]))
  clear ho_g4
  have ho_g4 := ho_g4'
  clear ho_g4'
  clear hy
  have hct_xm := MchMach.ctV_le (m)
  have yxm : w6.heap.size < w15.heap.size := by omega
  have xxm0 := hBxm_15 0 _ rfl
  have xxm1 := hBxm_15 1 _ rfl
  have xxm2 := hBxm_15 2 _ rfl
  have xxm3 := hBxm_15 3 _ rfl
  have xxm4 := hBxm_15 4 _ rfl
  have xxm5 := hBxm_15 5 _ rfl
  have xxm6 := hBxm_15 6 _ rfl
  have xxm7 := hBxm_15 7 _ rfl
  have xxm8 := hBxm_15 8 _ rfl
  have xxm9 := hBxm_15 9 _ rfl
  go_wp2_with fail
  clear xxm0 xxm1 xxm2 xxm3 xxm4 xxm5 xxm6 xxm7 xxm8 xxm9 yxm
  refine (mark_MchMach (m) _ _ _ _ _ _ _ _ (1 + ((IrBlock.ctV (b) : Nat) : Int)) _ (OwnSl.up ho_xm1 (fr_xm.inl.inl.inl.mk1 (Nat.le_refl _) (by omega)) (Ext.refl _)) (OwnSl.up ho_xm2 (fr_xm.inl.inl.inr.mk1 (Nat.le_refl _) (by omega)) (Ext.refl _)) (OwnSl.up ho_xm3 (fr_xm.inl.inr.mk1 (Nat.le_refl _) (by omega)) (Ext.refl _)) (OwnSl.up ho_xm4 (fr_xm.inr.mk1 (Nat.le_refl _) (by omega)) (Ext.refl _)) fr_xm.1 (fun x hx => by have := (fr_xm.2 x hx).2; omega) (by omega) (by omega)).mono ?_
  rintro e w16 ⟨rfl, hm_xm1, hm_xm2, hm_xm3, hm_xm4, hy⟩
  have hc16 : Chg (F_xm1 ++ F_xm2 ++ F_xm3 ++ F_xm4) w15 w16 := hy
  have hs16 := hc16.size
  have he16 : Ext w w16 := Chg.ext he15 hc16 (fun x hx => by have := (fr_xm.2 x hx).1; omega)
  have hBb_16 : Bx w16 (w.heap.size) [.int .i64 b.pc, .int .i64 b.len, (.slice Ab1 b.ops.length cb1), .int .i64 b.fin, .int .i64 b.x, .int .i64 b.y, .int .i64 b.k] := fun j u hu => (hc16.cell (by omega) (by intro hm; have := (fr_xm.2 _ hm); have h1 := this.1; have h2 := this.2; omega)).trans (hBb_15 j u hu)
  have hFb_16 : ∀ oo, w16.frozen? ⟨w.heap.size, oo, none⟩ = false := fun oo => (hc16.frozen _ _ (by omega)).trans (hFb_15 oo)
  have hBm_16 : Bx w16 (w.heap.size + 1) [(.slice Am1 m.regs.length cm1), .int .i64 m.pc, (.slice Am2 m.mem.length cm2), .int .i64 m.save, .bool m.lets, .bool m.waits, .int .i64 m.halt, (.slice Am3 m.ins.length cm3), (.slice Am4 m.outs.length cm4), .int .i64 m.count] := fun j u hu => (hc16.cell (by omega) (by intro hm; have := (fr_xm.2 _ hm); have h1 := this.1; have h2 := this.2; omega)).trans (hBm_15 j u hu)
  have hFm_16 : ∀ oo, w16.frozen? ⟨w.heap.size + 1, oo, none⟩ = false := fun oo => (hc16.frozen _ _ (by omega)).trans (hFm_15 oo)
  have hBw_16 : Bx w16 (q_w) [(.slice A_w1 ((irRun b m).regs).length c_w1), .int .i64 ((irRun b m).pc), (.slice A_w2 ((irRun b m).mem).length c_w2), .int .i64 ((irRun b m).save), .bool (irRun b m).lets, .bool (irRun b m).waits, .int .i64 ((irRun b m).halt), (.slice A_w3 ((irRun b m).ins).length c_w3), (.slice A_w4 ((irRun b m).outs).length c_w4), .int .i64 ((irRun b m).count)] := fun j u hu => (hc16.cell (by omega) (by intro hm; have := (fr_xm.2 _ hm); have h1 := this.1; have h2 := this.2; omega)).trans (hBw_15 j u hu)
  have hFw_16 : ∀ oo, w16.frozen? ⟨q_w, oo, none⟩ = false := fun oo => (hc16.frozen _ _ (by omega)).trans (hFw_15 oo)
  have hBxb_16 : Bx w16 (w4.heap.size) [.int .i64 b.pc, .int .i64 b.len, (.slice A_xb1 (b.ops).length c_xb1), .int .i64 b.fin, .int .i64 b.x, .int .i64 b.y, .int .i64 b.k] := fun j u hu => (hc16.cell (by omega) (by intro hm; have := (fr_xm.2 _ hm); have h1 := this.1; have h2 := this.2; omega)).trans (hBxb_15 j u hu)
  have hFxb_16 : ∀ oo, w16.frozen? ⟨w4.heap.size, oo, none⟩ = false := fun oo => (hc16.frozen _ _ (by omega)).trans (hFxb_15 oo)
  have hBxm_16 : Bx w16 (w6.heap.size) [(.slice A_xm1 (m.regs).length c_xm1), .int .i64 m.pc, (.slice A_xm2 (m.mem).length c_xm2), .int .i64 m.save, .bool m.lets, .bool m.waits, .int .i64 m.halt, (.slice A_xm3 (m.ins).length c_xm3), (.slice A_xm4 (m.outs).length c_xm4), .int .i64 m.count] := fun j u hu => (hc16.cell (by omega) (by intro hm; have := (fr_xm.2 _ hm); have h1 := this.1; have h2 := this.2; omega)).trans (hBxm_15 j u hu)
  have hFxm_16 : ∀ oo, w16.frozen? ⟨w6.heap.size, oo, none⟩ = false := fun oo => (hc16.frozen _ _ (by omega)).trans (hFxm_15 oo)
  have hBg_16 : Bx w16 (w8.heap.size) [(.slice A_g1 ((irRun b m).regs).length c_g1), .int .i64 ((irRun b m).pc), (.slice A_g2 ((irRun b m).mem).length c_g2), .int .i64 ((irRun b m).save), .bool (irRun b m).lets, .bool (irRun b m).waits, .int .i64 ((irRun b m).halt), (.slice A_g3 ((irRun b m).ins).length c_g3), (.slice A_g4 ((irRun b m).outs).length c_g4), .int .i64 ((irRun b m).count)] := fun j u hu => (hc16.cell (by omega) (by intro hm; have := (fr_xm.2 _ hm); have h1 := this.1; have h2 := this.2; omega)).trans (hBg_15 j u hu)
  have hFg_16 : ∀ oo, w16.frozen? ⟨w8.heap.size, oo, none⟩ = false := fun oo => (hc16.frozen _ _ (by omega)).trans (hFg_15 oo)
  clear hBb_15 hFb_15 hBm_15 hFm_15 hBw_15 hFw_15 hBxb_15 hFxb_15 hBxm_15 hFxm_15 hBg_15 hFg_15
  have ho_w1' := (OwnSl.up ho_w1 (fr_w.inl.inl.inl.mk1 (Nat.le_refl _) (by omega)) (Ext.refl _)).past fr_w.inl.inl.inl (by omega) hc16 (fun x hx => (fr_w.apart fr_xm (by omega)) x (by simp [hx]))
  clear ho_w1
  have ho_w1 := ho_w1'
  clear ho_w1'
  have ho_w2' := (OwnSl.up ho_w2 (fr_w.inl.inl.inr.mk1 (Nat.le_refl _) (by omega)) (Ext.refl _)).past fr_w.inl.inl.inr (by omega) hc16 (fun x hx => (fr_w.apart fr_xm (by omega)) x (by simp [hx]))
  clear ho_w2
  have ho_w2 := ho_w2'
  clear ho_w2'
  have ho_w3' := (OwnSl.up ho_w3 (fr_w.inl.inr.mk1 (Nat.le_refl _) (by omega)) (Ext.refl _)).past fr_w.inl.inr (by omega) hc16 (fun x hx => (fr_w.apart fr_xm (by omega)) x (by simp [hx]))
  clear ho_w3
  have ho_w3 := ho_w3'
  clear ho_w3'
  have ho_w4' := (OwnSl.up ho_w4 (fr_w.inr.mk1 (Nat.le_refl _) (by omega)) (Ext.refl _)).past fr_w.inr (by omega) hc16 (fun x hx => (fr_w.apart fr_xm (by omega)) x (by simp [hx]))
  clear ho_w4
  have ho_w4 := ho_w4'
  clear ho_w4'
  have hm_xb1' := (OwnSl.up hm_xb1 (fr_xb.mk1 (Nat.le_refl _) (by omega)) (Ext.refl _)).past fr_xb (by omega) hc16 (fun x hx => (fr_xb.apart fr_xm (by omega)) x (by simp [hx]))
  clear hm_xb1
  have hm_xb1 := hm_xb1'
  clear hm_xb1'
  have ho_g1' := (OwnSl.up ho_g1 (fr_g.inl.inl.inl.mk1 (Nat.le_refl _) (by omega)) (Ext.refl _)).past fr_g.inl.inl.inl (by omega) hc16 (fun x hx => (fr_g.apart' fr_xm (by omega)) x (by simp [hx]))
  clear ho_g1
  have ho_g1 := ho_g1'
  clear ho_g1'
  have ho_g2' := (OwnSl.up ho_g2 (fr_g.inl.inl.inr.mk1 (Nat.le_refl _) (by omega)) (Ext.refl _)).past fr_g.inl.inl.inr (by omega) hc16 (fun x hx => (fr_g.apart' fr_xm (by omega)) x (by simp [hx]))
  clear ho_g2
  have ho_g2 := ho_g2'
  clear ho_g2'
  have ho_g3' := (OwnSl.up ho_g3 (fr_g.inl.inr.mk1 (Nat.le_refl _) (by omega)) (Ext.refl _)).past fr_g.inl.inr (by omega) hc16 (fun x hx => (fr_g.apart' fr_xm (by omega)) x (by simp [hx]))
  clear ho_g3
  have ho_g3 := ho_g3'
  clear ho_g3'
  have ho_g4' := (OwnSl.up ho_g4 (fr_g.inr.mk1 (Nat.le_refl _) (by omega)) (Ext.refl _)).past fr_g.inr (by omega) hc16 (fun x hx => (fr_g.apart' fr_xm (by omega)) x (by simp [hx]))
  clear ho_g4
  have ho_g4 := ho_g4'
  clear ho_g4'
  clear hy
  have yg : w8.heap.size < w16.heap.size := by omega
  have xg0 := hBg_16 0 _ rfl
  have xg1 := hBg_16 1 _ rfl
  have xg2 := hBg_16 2 _ rfl
  have xg3 := hBg_16 3 _ rfl
  have xg4 := hBg_16 4 _ rfl
  have xg5 := hBg_16 5 _ rfl
  have xg6 := hBg_16 6 _ rfl
  have xg7 := hBg_16 7 _ rfl
  have xg8 := hBg_16 8 _ rfl
  have xg9 := hBg_16 9 _ rfl
  have yw : q_w < w16.heap.size := by omega
  have xw0 := hBw_16 0 _ rfl
  have xw1 := hBw_16 1 _ rfl
  have xw2 := hBw_16 2 _ rfl
  have xw3 := hBw_16 3 _ rfl
  have xw4 := hBw_16 4 _ rfl
  have xw5 := hBw_16 5 _ rfl
  have xw6 := hBw_16 6 _ rfl
  have xw7 := hBw_16 7 _ rfl
  have xw8 := hBw_16 8 _ rfl
  have xw9 := hBw_16 9 _ rfl
  go_wp2_with fail
  clear xg0 xg1 xg2 xg3 xg4 xg5 xg6 xg7 xg8 xg9 yg
  clear xw0 xw1 xw2 xw3 xw4 xw5 xw6 xw7 xw8 xw9 yw
  refine (eq_MchMach ((irRun b m)) ((irRun b m)) _ _ _ _ _ _ _ _  _ ((OwnSl.up ho_g1 (fr_g.inl.inl.inl.mk1 (Nat.le_refl _) (by omega)) (Ext.refl _)).old (fr_g.inl.inl.inl.mk1 (Nat.le_refl _) (by omega))) ((OwnSl.up ho_g2 (fr_g.inl.inl.inr.mk1 (Nat.le_refl _) (by omega)) (Ext.refl _)).old (fr_g.inl.inl.inr.mk1 (Nat.le_refl _) (by omega))) ((OwnSl.up ho_g3 (fr_g.inl.inr.mk1 (Nat.le_refl _) (by omega)) (Ext.refl _)).old (fr_g.inl.inr.mk1 (Nat.le_refl _) (by omega))) ((OwnSl.up ho_g4 (fr_g.inr.mk1 (Nat.le_refl _) (by omega)) (Ext.refl _)).old (fr_g.inr.mk1 (Nat.le_refl _) (by omega))) ((OwnSl.up ho_w1 (fr_w.inl.inl.inl.mk1 (Nat.le_refl _) (by omega)) (Ext.refl _)).old (fr_w.inl.inl.inl.mk1 (Nat.le_refl _) (by omega))) ((OwnSl.up ho_w2 (fr_w.inl.inl.inr.mk1 (Nat.le_refl _) (by omega)) (Ext.refl _)).old (fr_w.inl.inl.inr.mk1 (Nat.le_refl _) (by omega))) ((OwnSl.up ho_w3 (fr_w.inl.inr.mk1 (Nat.le_refl _) (by omega)) (Ext.refl _)).old (fr_w.inl.inr.mk1 (Nat.le_refl _) (by omega))) ((OwnSl.up ho_w4 (fr_w.inr.mk1 (Nat.le_refl _) (by omega)) (Ext.refl _)).old (fr_w.inr.mk1 (Nat.le_refl _) (by omega)))).mono ?_
  rintro e w17 ⟨rfl, hy⟩
  have hx17 : Ext w16 w17 := Ext.trans (Ext.auto) hy
  have hs17 := hx17.size
  have he17 : Ext w w17 := he16.trans hx17
  have hBb_17 : Bx w17 (w.heap.size) [.int .i64 b.pc, .int .i64 b.len, (.slice Ab1 b.ops.length cb1), .int .i64 b.fin, .int .i64 b.x, .int .i64 b.y, .int .i64 b.k] := hx17.bx hBb_16 (by omega)
  have hFb_17 : ∀ oo, w17.frozen? ⟨w.heap.size, oo, none⟩ = false := fun oo => (hx17.frozen (by omega)).trans (hFb_16 oo)
  have hBm_17 : Bx w17 (w.heap.size + 1) [(.slice Am1 m.regs.length cm1), .int .i64 m.pc, (.slice Am2 m.mem.length cm2), .int .i64 m.save, .bool m.lets, .bool m.waits, .int .i64 m.halt, (.slice Am3 m.ins.length cm3), (.slice Am4 m.outs.length cm4), .int .i64 m.count] := hx17.bx hBm_16 (by omega)
  have hFm_17 : ∀ oo, w17.frozen? ⟨w.heap.size + 1, oo, none⟩ = false := fun oo => (hx17.frozen (by omega)).trans (hFm_16 oo)
  have hBw_17 : Bx w17 (q_w) [(.slice A_w1 ((irRun b m).regs).length c_w1), .int .i64 ((irRun b m).pc), (.slice A_w2 ((irRun b m).mem).length c_w2), .int .i64 ((irRun b m).save), .bool (irRun b m).lets, .bool (irRun b m).waits, .int .i64 ((irRun b m).halt), (.slice A_w3 ((irRun b m).ins).length c_w3), (.slice A_w4 ((irRun b m).outs).length c_w4), .int .i64 ((irRun b m).count)] := hx17.bx hBw_16 (by omega)
  have hFw_17 : ∀ oo, w17.frozen? ⟨q_w, oo, none⟩ = false := fun oo => (hx17.frozen (by omega)).trans (hFw_16 oo)
  have hBxb_17 : Bx w17 (w4.heap.size) [.int .i64 b.pc, .int .i64 b.len, (.slice A_xb1 (b.ops).length c_xb1), .int .i64 b.fin, .int .i64 b.x, .int .i64 b.y, .int .i64 b.k] := hx17.bx hBxb_16 (by omega)
  have hFxb_17 : ∀ oo, w17.frozen? ⟨w4.heap.size, oo, none⟩ = false := fun oo => (hx17.frozen (by omega)).trans (hFxb_16 oo)
  have hBxm_17 : Bx w17 (w6.heap.size) [(.slice A_xm1 (m.regs).length c_xm1), .int .i64 m.pc, (.slice A_xm2 (m.mem).length c_xm2), .int .i64 m.save, .bool m.lets, .bool m.waits, .int .i64 m.halt, (.slice A_xm3 (m.ins).length c_xm3), (.slice A_xm4 (m.outs).length c_xm4), .int .i64 m.count] := hx17.bx hBxm_16 (by omega)
  have hFxm_17 : ∀ oo, w17.frozen? ⟨w6.heap.size, oo, none⟩ = false := fun oo => (hx17.frozen (by omega)).trans (hFxm_16 oo)
  have hBg_17 : Bx w17 (w8.heap.size) [(.slice A_g1 ((irRun b m).regs).length c_g1), .int .i64 ((irRun b m).pc), (.slice A_g2 ((irRun b m).mem).length c_g2), .int .i64 ((irRun b m).save), .bool (irRun b m).lets, .bool (irRun b m).waits, .int .i64 ((irRun b m).halt), (.slice A_g3 ((irRun b m).ins).length c_g3), (.slice A_g4 ((irRun b m).outs).length c_g4), .int .i64 ((irRun b m).count)] := hx17.bx hBg_16 (by omega)
  have hFg_17 : ∀ oo, w17.frozen? ⟨w8.heap.size, oo, none⟩ = false := fun oo => (hx17.frozen (by omega)).trans (hFg_16 oo)
  clear hBb_16 hFb_16 hBm_16 hFm_16 hBw_16 hFw_16 hBxb_16 hFxb_16 hBxm_16 hFxm_16 hBg_16 hFg_16
  clear hy
  clear hm_xb1 fr_xb
  clear hm_xm1 hm_xm2 hm_xm3 hm_xm4 fr_xm
  have hct_g := MchMach.ctV_le ((irRun b m))
  have hrb := blk_irRun b m
  have yg : w8.heap.size < w17.heap.size := by omega
  have xg0 := hBg_17 0 _ rfl
  have xg1 := hBg_17 1 _ rfl
  have xg2 := hBg_17 2 _ rfl
  have xg3 := hBg_17 3 _ rfl
  have xg4 := hBg_17 4 _ rfl
  have xg5 := hBg_17 5 _ rfl
  have xg6 := hBg_17 6 _ rfl
  have xg7 := hBg_17 7 _ rfl
  have xg8 := hBg_17 8 _ rfl
  have xg9 := hBg_17 9 _ rfl
  go_wp2_with fail
  clear xg0 xg1 xg2 xg3 xg4 xg5 xg6 xg7 xg8 xg9 yg
  refine (mark_MchMach ((irRun b m)) _ _ _ _ _ _ _ _ (1) _ (OwnSl.up ho_g1 (fr_g.inl.inl.inl.mk1 (Nat.le_refl _) (by omega)) hx17) (OwnSl.up ho_g2 (fr_g.inl.inl.inr.mk1 (Nat.le_refl _) (by omega)) hx17) (OwnSl.up ho_g3 (fr_g.inl.inr.mk1 (Nat.le_refl _) (by omega)) hx17) (OwnSl.up ho_g4 (fr_g.inr.mk1 (Nat.le_refl _) (by omega)) hx17) fr_g.1 (fun x hx => by have := (fr_g.2 x hx).2; omega) (by omega) (by omega)).mono ?_
  rintro e w18 ⟨rfl, hm_g1, hm_g2, hm_g3, hm_g4, hy⟩
  have hc18 : Chg (F_g1 ++ F_g2 ++ F_g3 ++ F_g4) w17 w18 := hy
  have hs18 := hc18.size
  have he18 : Ext w w18 := Chg.ext he17 hc18 (fun x hx => by have := (fr_g.2 x hx).1; omega)
  have hBb_18 : Bx w18 (w.heap.size) [.int .i64 b.pc, .int .i64 b.len, (.slice Ab1 b.ops.length cb1), .int .i64 b.fin, .int .i64 b.x, .int .i64 b.y, .int .i64 b.k] := fun j u hu => (hc18.cell (by omega) (by intro hm; have := (fr_g.2 _ hm); have h1 := this.1; have h2 := this.2; omega)).trans (hBb_17 j u hu)
  have hFb_18 : ∀ oo, w18.frozen? ⟨w.heap.size, oo, none⟩ = false := fun oo => (hc18.frozen _ _ (by omega)).trans (hFb_17 oo)
  have hBm_18 : Bx w18 (w.heap.size + 1) [(.slice Am1 m.regs.length cm1), .int .i64 m.pc, (.slice Am2 m.mem.length cm2), .int .i64 m.save, .bool m.lets, .bool m.waits, .int .i64 m.halt, (.slice Am3 m.ins.length cm3), (.slice Am4 m.outs.length cm4), .int .i64 m.count] := fun j u hu => (hc18.cell (by omega) (by intro hm; have := (fr_g.2 _ hm); have h1 := this.1; have h2 := this.2; omega)).trans (hBm_17 j u hu)
  have hFm_18 : ∀ oo, w18.frozen? ⟨w.heap.size + 1, oo, none⟩ = false := fun oo => (hc18.frozen _ _ (by omega)).trans (hFm_17 oo)
  have hBw_18 : Bx w18 (q_w) [(.slice A_w1 ((irRun b m).regs).length c_w1), .int .i64 ((irRun b m).pc), (.slice A_w2 ((irRun b m).mem).length c_w2), .int .i64 ((irRun b m).save), .bool (irRun b m).lets, .bool (irRun b m).waits, .int .i64 ((irRun b m).halt), (.slice A_w3 ((irRun b m).ins).length c_w3), (.slice A_w4 ((irRun b m).outs).length c_w4), .int .i64 ((irRun b m).count)] := fun j u hu => (hc18.cell (by omega) (by intro hm; have := (fr_g.2 _ hm); have h1 := this.1; have h2 := this.2; omega)).trans (hBw_17 j u hu)
  have hFw_18 : ∀ oo, w18.frozen? ⟨q_w, oo, none⟩ = false := fun oo => (hc18.frozen _ _ (by omega)).trans (hFw_17 oo)
  have hBxb_18 : Bx w18 (w4.heap.size) [.int .i64 b.pc, .int .i64 b.len, (.slice A_xb1 (b.ops).length c_xb1), .int .i64 b.fin, .int .i64 b.x, .int .i64 b.y, .int .i64 b.k] := fun j u hu => (hc18.cell (by omega) (by intro hm; have := (fr_g.2 _ hm); have h1 := this.1; have h2 := this.2; omega)).trans (hBxb_17 j u hu)
  have hFxb_18 : ∀ oo, w18.frozen? ⟨w4.heap.size, oo, none⟩ = false := fun oo => (hc18.frozen _ _ (by omega)).trans (hFxb_17 oo)
  have hBxm_18 : Bx w18 (w6.heap.size) [(.slice A_xm1 (m.regs).length c_xm1), .int .i64 m.pc, (.slice A_xm2 (m.mem).length c_xm2), .int .i64 m.save, .bool m.lets, .bool m.waits, .int .i64 m.halt, (.slice A_xm3 (m.ins).length c_xm3), (.slice A_xm4 (m.outs).length c_xm4), .int .i64 m.count] := fun j u hu => (hc18.cell (by omega) (by intro hm; have := (fr_g.2 _ hm); have h1 := this.1; have h2 := this.2; omega)).trans (hBxm_17 j u hu)
  have hFxm_18 : ∀ oo, w18.frozen? ⟨w6.heap.size, oo, none⟩ = false := fun oo => (hc18.frozen _ _ (by omega)).trans (hFxm_17 oo)
  have hBg_18 : Bx w18 (w8.heap.size) [(.slice A_g1 ((irRun b m).regs).length c_g1), .int .i64 ((irRun b m).pc), (.slice A_g2 ((irRun b m).mem).length c_g2), .int .i64 ((irRun b m).save), .bool (irRun b m).lets, .bool (irRun b m).waits, .int .i64 ((irRun b m).halt), (.slice A_g3 ((irRun b m).ins).length c_g3), (.slice A_g4 ((irRun b m).outs).length c_g4), .int .i64 ((irRun b m).count)] := fun j u hu => (hc18.cell (by omega) (by intro hm; have := (fr_g.2 _ hm); have h1 := this.1; have h2 := this.2; omega)).trans (hBg_17 j u hu)
  have hFg_18 : ∀ oo, w18.frozen? ⟨w8.heap.size, oo, none⟩ = false := fun oo => (hc18.frozen _ _ (by omega)).trans (hFg_17 oo)
  clear hBb_17 hFb_17 hBm_17 hFm_17 hBw_17 hFw_17 hBxb_17 hFxb_17 hBxm_17 hFxm_17 hBg_17 hFg_17
  have ho_w1' := (OwnSl.up ho_w1 (fr_w.inl.inl.inl.mk1 (Nat.le_refl _) (by omega)) hx17).past fr_w.inl.inl.inl (by omega) hc18 (fun x hx => (fr_w.apart fr_g (by omega)) x (by simp [hx]))
  clear ho_w1
  have ho_w1 := ho_w1'
  clear ho_w1'
  have ho_w2' := (OwnSl.up ho_w2 (fr_w.inl.inl.inr.mk1 (Nat.le_refl _) (by omega)) hx17).past fr_w.inl.inl.inr (by omega) hc18 (fun x hx => (fr_w.apart fr_g (by omega)) x (by simp [hx]))
  clear ho_w2
  have ho_w2 := ho_w2'
  clear ho_w2'
  have ho_w3' := (OwnSl.up ho_w3 (fr_w.inl.inr.mk1 (Nat.le_refl _) (by omega)) hx17).past fr_w.inl.inr (by omega) hc18 (fun x hx => (fr_w.apart fr_g (by omega)) x (by simp [hx]))
  clear ho_w3
  have ho_w3 := ho_w3'
  clear ho_w3'
  have ho_w4' := (OwnSl.up ho_w4 (fr_w.inr.mk1 (Nat.le_refl _) (by omega)) hx17).past fr_w.inr (by omega) hc18 (fun x hx => (fr_w.apart fr_g (by omega)) x (by simp [hx]))
  clear ho_w4
  have ho_w4 := ho_w4'
  clear ho_w4'
  clear hy
  have yg : w8.heap.size < w18.heap.size := by omega
  have xg0 := hBg_18 0 _ rfl
  have xg1 := hBg_18 1 _ rfl
  have xg2 := hBg_18 2 _ rfl
  have xg3 := hBg_18 3 _ rfl
  have xg4 := hBg_18 4 _ rfl
  have xg5 := hBg_18 5 _ rfl
  have xg6 := hBg_18 6 _ rfl
  have xg7 := hBg_18 7 _ rfl
  have xg8 := hBg_18 8 _ rfl
  have xg9 := hBg_18 9 _ rfl
  go_wp2_with fail
  clear xg0 xg1 xg2 xg3 xg4 xg5 xg6 xg7 xg8 xg9 yg
  refine (held_MchMach ((irRun b m)) _ _ _ _ (1) _ ((OwnSl.up hm_g1 (fr_g.inl.inl.inl.mk1 (Nat.le_refl _) (by omega)) (Ext.refl _)).old (fr_g.inl.inl.inl.mk1 (Nat.le_refl _) (by omega))) ((OwnSl.up hm_g2 (fr_g.inl.inl.inr.mk1 (Nat.le_refl _) (by omega)) (Ext.refl _)).old (fr_g.inl.inl.inr.mk1 (Nat.le_refl _) (by omega))) ((OwnSl.up hm_g3 (fr_g.inl.inr.mk1 (Nat.le_refl _) (by omega)) (Ext.refl _)).old (fr_g.inl.inr.mk1 (Nat.le_refl _) (by omega))) ((OwnSl.up hm_g4 (fr_g.inr.mk1 (Nat.le_refl _) (by omega)) (Ext.refl _)).old (fr_g.inr.mk1 (Nat.le_refl _) (by omega))) (by omega) (by omega)).mono ?_
  rintro e w19 ⟨rfl, hy⟩
  have hx19 : Ext w18 w19 := Ext.trans (Ext.auto) hy
  have hs19 := hx19.size
  have he19 : Ext w w19 := he18.trans hx19
  have hBb_19 : Bx w19 (w.heap.size) [.int .i64 b.pc, .int .i64 b.len, (.slice Ab1 b.ops.length cb1), .int .i64 b.fin, .int .i64 b.x, .int .i64 b.y, .int .i64 b.k] := hx19.bx hBb_18 (by omega)
  have hFb_19 : ∀ oo, w19.frozen? ⟨w.heap.size, oo, none⟩ = false := fun oo => (hx19.frozen (by omega)).trans (hFb_18 oo)
  have hBm_19 : Bx w19 (w.heap.size + 1) [(.slice Am1 m.regs.length cm1), .int .i64 m.pc, (.slice Am2 m.mem.length cm2), .int .i64 m.save, .bool m.lets, .bool m.waits, .int .i64 m.halt, (.slice Am3 m.ins.length cm3), (.slice Am4 m.outs.length cm4), .int .i64 m.count] := hx19.bx hBm_18 (by omega)
  have hFm_19 : ∀ oo, w19.frozen? ⟨w.heap.size + 1, oo, none⟩ = false := fun oo => (hx19.frozen (by omega)).trans (hFm_18 oo)
  have hBw_19 : Bx w19 (q_w) [(.slice A_w1 ((irRun b m).regs).length c_w1), .int .i64 ((irRun b m).pc), (.slice A_w2 ((irRun b m).mem).length c_w2), .int .i64 ((irRun b m).save), .bool (irRun b m).lets, .bool (irRun b m).waits, .int .i64 ((irRun b m).halt), (.slice A_w3 ((irRun b m).ins).length c_w3), (.slice A_w4 ((irRun b m).outs).length c_w4), .int .i64 ((irRun b m).count)] := hx19.bx hBw_18 (by omega)
  have hFw_19 : ∀ oo, w19.frozen? ⟨q_w, oo, none⟩ = false := fun oo => (hx19.frozen (by omega)).trans (hFw_18 oo)
  have hBxb_19 : Bx w19 (w4.heap.size) [.int .i64 b.pc, .int .i64 b.len, (.slice A_xb1 (b.ops).length c_xb1), .int .i64 b.fin, .int .i64 b.x, .int .i64 b.y, .int .i64 b.k] := hx19.bx hBxb_18 (by omega)
  have hFxb_19 : ∀ oo, w19.frozen? ⟨w4.heap.size, oo, none⟩ = false := fun oo => (hx19.frozen (by omega)).trans (hFxb_18 oo)
  have hBxm_19 : Bx w19 (w6.heap.size) [(.slice A_xm1 (m.regs).length c_xm1), .int .i64 m.pc, (.slice A_xm2 (m.mem).length c_xm2), .int .i64 m.save, .bool m.lets, .bool m.waits, .int .i64 m.halt, (.slice A_xm3 (m.ins).length c_xm3), (.slice A_xm4 (m.outs).length c_xm4), .int .i64 m.count] := hx19.bx hBxm_18 (by omega)
  have hFxm_19 : ∀ oo, w19.frozen? ⟨w6.heap.size, oo, none⟩ = false := fun oo => (hx19.frozen (by omega)).trans (hFxm_18 oo)
  have hBg_19 : Bx w19 (w8.heap.size) [(.slice A_g1 ((irRun b m).regs).length c_g1), .int .i64 ((irRun b m).pc), (.slice A_g2 ((irRun b m).mem).length c_g2), .int .i64 ((irRun b m).save), .bool (irRun b m).lets, .bool (irRun b m).waits, .int .i64 ((irRun b m).halt), (.slice A_g3 ((irRun b m).ins).length c_g3), (.slice A_g4 ((irRun b m).outs).length c_g4), .int .i64 ((irRun b m).count)] := hx19.bx hBg_18 (by omega)
  have hFg_19 : ∀ oo, w19.frozen? ⟨w8.heap.size, oo, none⟩ = false := fun oo => (hx19.frozen (by omega)).trans (hFg_18 oo)
  clear hBb_18 hFb_18 hBm_18 hFm_18 hBw_18 hFw_18 hBxb_18 hFxb_18 hBxm_18 hFxm_18 hBg_18 hFg_18
  clear hy
  go_upto_region 31 with fail
  go_cut [15, 16] (fun vt15 vt16 wx => ∃ (q_h : Nat) (A_h1 : Option Addr) (c_h1 : Nat) (A_h2 : Option Addr) (c_h2 : Nat) (A_h3 : Option Addr) (c_h3 : Nat) (A_h4 : Option Addr) (c_h4 : Nat) (F_h1 F_h2 F_h3 F_h4 : List Nat), vt15 = .pointer (some ⟨q_h, 0, none⟩) ∧ vt16 = .bool (irRunOk b m) ∧ Ext w19 wx ∧ w19.heap.size ≤ q_h ∧ q_h < wx.heap.size ∧ Bx wx q_h [(.slice A_h1 ((irRun b m).regs).length c_h1), .int .i64 ((irRun b m).pc), (.slice A_h2 ((irRun b m).mem).length c_h2), .int .i64 ((irRun b m).save), .bool (irRun b m).lets, .bool (irRun b m).waits, .int .i64 ((irRun b m).halt), (.slice A_h3 ((irRun b m).ins).length c_h3), (.slice A_h4 ((irRun b m).outs).length c_h4), .int .i64 ((irRun b m).count)] ∧ (∀ oo, wx.frozen? ⟨q_h, oo, none⟩ = false) ∧ OwnSl wx (.slice A_h1 ((irRun b m).regs).length c_h1) ((irRun b m).regs) F_h1 ∧ OwnSl wx (.slice A_h2 ((irRun b m).mem).length c_h2) ((irRun b m).mem) F_h2 ∧ OwnSl wx (.slice A_h3 ((irRun b m).ins).length c_h3) ((irRun b m).ins) F_h3 ∧ OwnSl wx (.slice A_h4 ((irRun b m).outs).length c_h4) ((irRun b m).outs) F_h4 ∧ Fr w19 wx (F_h1 ++ F_h2 ++ F_h3 ++ F_h4))
  · 
    have yb : w.heap.size < w19.heap.size := by omega
    have xb0 := hBb_19 0 _ rfl
    have xb1 := hBb_19 1 _ rfl
    have xb2 := hBb_19 2 _ rfl
    have xb3 := hBb_19 3 _ rfl
    have xb4 := hBb_19 4 _ rfl
    have xb5 := hBb_19 5 _ rfl
    have xb6 := hBb_19 6 _ rfl
    have ym : w.heap.size + 1 < w19.heap.size := by omega
    have xm0 := hBm_19 0 _ rfl
    have xm1 := hBm_19 1 _ rfl
    have xm2 := hBm_19 2 _ rfl
    have xm3 := hBm_19 3 _ rfl
    have xm4 := hBm_19 4 _ rfl
    have xm5 := hBm_19 5 _ rfl
    have xm6 := hBm_19 6 _ rfl
    have xm7 := hBm_19 7 _ rfl
    have xm8 := hBm_19 8 _ rfl
    have xm9 := hBm_19 9 _ rfl
    have hS : ∀ w', Ext w19 w' → ∀ bb oo, bb < w19.heap.size → w'.cell? ⟨bb, oo, none⟩ = w19.cell? ⟨bb, oo, none⟩ := fun w' hx bb oo hb => hx.cell hb
    refine wp_region_plan (fun w' => Ext w19 w') 10 (.float 0 (.float 2 (.fork 1 8 (.fork 3 8 (.fork 4 8 (.float 5 (.float 6 (.float 7 (.chain 8 (.chain 9 (.tail 10)))))) (.chain 4 (.float 5 (.float 6 (.float 7 (.chain 9 (.tail 10))))))) (.chain 3 (.chain 4 (.float 5 (.float 6 (.float 7 (.chain 9 (.tail 10)))))))) (.chain 1 (.chain 3 (.chain 4 (.float 5 (.float 6 (.float 7 (.chain 9 (.tail 10))))))))))) (by kernel_rfl) (by kernel_rfl) (Ext.refl _).drew ?_
    iterate 2 ((refine Plan.float_step (v := ?_) rfl (by rfl) (fun _ _ _ h => h) (fun w' hSw => ?_) ?_; rotate_left; · (go_simp; try with_reducible rfl)); (try simp only [Act.put, List.setIfInBounds_toArray, List.set_cons_zero, List.set_cons_succ]))
    refine Plan.fork_step ?_ ?_
    · 
      refine Plan.chain_step rfl (fun K hK => ?_)
      go_simp
      refine (to_IrBlock b _ _ (hb1.ext (Ext.trans he19 (Ext.auto))) nb).mono ?_
      rintro e w20 ⟨r_zb1, F_zb1, rfl, ho_zb1, hf_zb, hy⟩
      refine hK.out _ _ (Ext.trans (Ext.auto) hy) ?_
      clear hK
      (try simp only [Act.put, List.setIfInBounds_toArray, List.set_cons_zero, List.set_cons_succ])
      have hx20 : Ext w19 w20 := Ext.trans (Ext.auto) hy
      have hs20 := hx20.size
      have he20 : Ext w w20 := he19.trans hx20
      have hBb_20 : Bx w20 (w.heap.size) [.int .i64 b.pc, .int .i64 b.len, (.slice Ab1 b.ops.length cb1), .int .i64 b.fin, .int .i64 b.x, .int .i64 b.y, .int .i64 b.k] := hx20.bx hBb_19 (by omega)
      have hFb_20 : ∀ oo, w20.frozen? ⟨w.heap.size, oo, none⟩ = false := fun oo => (hx20.frozen (by omega)).trans (hFb_19 oo)
      have hBm_20 : Bx w20 (w.heap.size + 1) [(.slice Am1 m.regs.length cm1), .int .i64 m.pc, (.slice Am2 m.mem.length cm2), .int .i64 m.save, .bool m.lets, .bool m.waits, .int .i64 m.halt, (.slice Am3 m.ins.length cm3), (.slice Am4 m.outs.length cm4), .int .i64 m.count] := hx20.bx hBm_19 (by omega)
      have hFm_20 : ∀ oo, w20.frozen? ⟨w.heap.size + 1, oo, none⟩ = false := fun oo => (hx20.frozen (by omega)).trans (hFm_19 oo)
      have hBw_20 : Bx w20 (q_w) [(.slice A_w1 ((irRun b m).regs).length c_w1), .int .i64 ((irRun b m).pc), (.slice A_w2 ((irRun b m).mem).length c_w2), .int .i64 ((irRun b m).save), .bool (irRun b m).lets, .bool (irRun b m).waits, .int .i64 ((irRun b m).halt), (.slice A_w3 ((irRun b m).ins).length c_w3), (.slice A_w4 ((irRun b m).outs).length c_w4), .int .i64 ((irRun b m).count)] := hx20.bx hBw_19 (by omega)
      have hFw_20 : ∀ oo, w20.frozen? ⟨q_w, oo, none⟩ = false := fun oo => (hx20.frozen (by omega)).trans (hFw_19 oo)
      have hBxb_20 : Bx w20 (w4.heap.size) [.int .i64 b.pc, .int .i64 b.len, (.slice A_xb1 (b.ops).length c_xb1), .int .i64 b.fin, .int .i64 b.x, .int .i64 b.y, .int .i64 b.k] := hx20.bx hBxb_19 (by omega)
      have hFxb_20 : ∀ oo, w20.frozen? ⟨w4.heap.size, oo, none⟩ = false := fun oo => (hx20.frozen (by omega)).trans (hFxb_19 oo)
      have hBxm_20 : Bx w20 (w6.heap.size) [(.slice A_xm1 (m.regs).length c_xm1), .int .i64 m.pc, (.slice A_xm2 (m.mem).length c_xm2), .int .i64 m.save, .bool m.lets, .bool m.waits, .int .i64 m.halt, (.slice A_xm3 (m.ins).length c_xm3), (.slice A_xm4 (m.outs).length c_xm4), .int .i64 m.count] := hx20.bx hBxm_19 (by omega)
      have hFxm_20 : ∀ oo, w20.frozen? ⟨w6.heap.size, oo, none⟩ = false := fun oo => (hx20.frozen (by omega)).trans (hFxm_19 oo)
      have hBg_20 : Bx w20 (w8.heap.size) [(.slice A_g1 ((irRun b m).regs).length c_g1), .int .i64 ((irRun b m).pc), (.slice A_g2 ((irRun b m).mem).length c_g2), .int .i64 ((irRun b m).save), .bool (irRun b m).lets, .bool (irRun b m).waits, .int .i64 ((irRun b m).halt), (.slice A_g3 ((irRun b m).ins).length c_g3), (.slice A_g4 ((irRun b m).outs).length c_g4), .int .i64 ((irRun b m).count)] := hx20.bx hBg_19 (by omega)
      have hFg_20 : ∀ oo, w20.frozen? ⟨w8.heap.size, oo, none⟩ = false := fun oo => (hx20.frozen (by omega)).trans (hFg_19 oo)
      clear hBb_19 hFb_19 hBm_19 hFm_19 hBw_19 hFw_19 hBxb_19 hFxb_19 hBxm_19 hFxm_19 hBg_19 hFg_19
      clear hy
      obtain ⟨A_zb1, c_zb1, rfl, -, -⟩ := ho_zb1.sl.form
      have fr_zb : Fr w19 w20 (F_zb1) := hf_zb.mk1 (by first | exact Nat.le_refl _ | (simp; done)) (Nat.le_refl _)
      clear hf_zb
      refine Plan.fork_step ?_ ?_
      · 
        refine Plan.chain_step rfl (fun K hK => ?_)
        go_simp
        refine (to_MchMach m _ _ _ _ _ (hm1.ext (Ext.trans he20 (Ext.auto))) (hm2.ext (Ext.trans he20 (Ext.auto))) (hm3.ext (Ext.trans he20 (Ext.auto))) (hm4.ext (Ext.trans he20 (Ext.auto))) nm).mono ?_
        rintro e w21 ⟨r_zm1, r_zm2, r_zm3, r_zm4, F_zm1, F_zm2, F_zm3, F_zm4, rfl, ho_zm1, ho_zm2, ho_zm3, ho_zm4, hf_zm, hy⟩
        refine hK.out _ _ (Ext.trans hx20 hy) ?_
        clear hK
        (try simp only [Act.put, List.setIfInBounds_toArray, List.set_cons_zero, List.set_cons_succ])
        have hx21 : Ext w20 w21 := Ext.trans (Ext.auto) hy
        have hs21 := hx21.size
        have he21 : Ext w w21 := he20.trans hx21
        have hBb_21 : Bx w21 (w.heap.size) [.int .i64 b.pc, .int .i64 b.len, (.slice Ab1 b.ops.length cb1), .int .i64 b.fin, .int .i64 b.x, .int .i64 b.y, .int .i64 b.k] := hx21.bx hBb_20 (by omega)
        have hFb_21 : ∀ oo, w21.frozen? ⟨w.heap.size, oo, none⟩ = false := fun oo => (hx21.frozen (by omega)).trans (hFb_20 oo)
        have hBm_21 : Bx w21 (w.heap.size + 1) [(.slice Am1 m.regs.length cm1), .int .i64 m.pc, (.slice Am2 m.mem.length cm2), .int .i64 m.save, .bool m.lets, .bool m.waits, .int .i64 m.halt, (.slice Am3 m.ins.length cm3), (.slice Am4 m.outs.length cm4), .int .i64 m.count] := hx21.bx hBm_20 (by omega)
        have hFm_21 : ∀ oo, w21.frozen? ⟨w.heap.size + 1, oo, none⟩ = false := fun oo => (hx21.frozen (by omega)).trans (hFm_20 oo)
        have hBw_21 : Bx w21 (q_w) [(.slice A_w1 ((irRun b m).regs).length c_w1), .int .i64 ((irRun b m).pc), (.slice A_w2 ((irRun b m).mem).length c_w2), .int .i64 ((irRun b m).save), .bool (irRun b m).lets, .bool (irRun b m).waits, .int .i64 ((irRun b m).halt), (.slice A_w3 ((irRun b m).ins).length c_w3), (.slice A_w4 ((irRun b m).outs).length c_w4), .int .i64 ((irRun b m).count)] := hx21.bx hBw_20 (by omega)
        have hFw_21 : ∀ oo, w21.frozen? ⟨q_w, oo, none⟩ = false := fun oo => (hx21.frozen (by omega)).trans (hFw_20 oo)
        have hBxb_21 : Bx w21 (w4.heap.size) [.int .i64 b.pc, .int .i64 b.len, (.slice A_xb1 (b.ops).length c_xb1), .int .i64 b.fin, .int .i64 b.x, .int .i64 b.y, .int .i64 b.k] := hx21.bx hBxb_20 (by omega)
        have hFxb_21 : ∀ oo, w21.frozen? ⟨w4.heap.size, oo, none⟩ = false := fun oo => (hx21.frozen (by omega)).trans (hFxb_20 oo)
        have hBxm_21 : Bx w21 (w6.heap.size) [(.slice A_xm1 (m.regs).length c_xm1), .int .i64 m.pc, (.slice A_xm2 (m.mem).length c_xm2), .int .i64 m.save, .bool m.lets, .bool m.waits, .int .i64 m.halt, (.slice A_xm3 (m.ins).length c_xm3), (.slice A_xm4 (m.outs).length c_xm4), .int .i64 m.count] := hx21.bx hBxm_20 (by omega)
        have hFxm_21 : ∀ oo, w21.frozen? ⟨w6.heap.size, oo, none⟩ = false := fun oo => (hx21.frozen (by omega)).trans (hFxm_20 oo)
        have hBg_21 : Bx w21 (w8.heap.size) [(.slice A_g1 ((irRun b m).regs).length c_g1), .int .i64 ((irRun b m).pc), (.slice A_g2 ((irRun b m).mem).length c_g2), .int .i64 ((irRun b m).save), .bool (irRun b m).lets, .bool (irRun b m).waits, .int .i64 ((irRun b m).halt), (.slice A_g3 ((irRun b m).ins).length c_g3), (.slice A_g4 ((irRun b m).outs).length c_g4), .int .i64 ((irRun b m).count)] := hx21.bx hBg_20 (by omega)
        have hFg_21 : ∀ oo, w21.frozen? ⟨w8.heap.size, oo, none⟩ = false := fun oo => (hx21.frozen (by omega)).trans (hFg_20 oo)
        clear hBb_20 hFb_20 hBm_20 hFm_20 hBw_20 hFw_20 hBxb_20 hFxb_20 hBxm_20 hFxm_20 hBg_20 hFg_20
        clear hy
        obtain ⟨A_zm1, c_zm1, rfl, -, -⟩ := ho_zm1.sl.form
        obtain ⟨A_zm2, c_zm2, rfl, -, -⟩ := ho_zm2.sl.form
        obtain ⟨A_zm3, c_zm3, rfl, -, -⟩ := ho_zm3.sl.form
        obtain ⟨A_zm4, c_zm4, rfl, -, -⟩ := ho_zm4.sl.form
        have fr_zm : Fr w20 w21 (F_zm1 ++ F_zm2 ++ F_zm3 ++ F_zm4) := hf_zm.mk1 (by first | exact Nat.le_refl _ | (simp; done)) (Nat.le_refl _)
        clear hf_zm
        refine Plan.fork_step ?_ ?_
        · 
          refine Plan.chain_step rfl (fun K hK => ?_)
          go_simp
          refine (implIrRun_p b m _ _ _ _ _ _ ((OwnSl.up ho_zb1 (fr_zb.mk1 (Nat.le_refl _) (by omega)) hx21).old (fr_zb.mk1 (Nat.le_refl _) (by omega))) ((OwnSl.up ho_zm1 (fr_zm.inl.inl.inl.mk1 (Nat.le_refl _) (by omega)) (Ext.refl _)).old (fr_zm.inl.inl.inl.mk1 (Nat.le_refl _) (by omega))) ((OwnSl.up ho_zm2 (fr_zm.inl.inl.inr.mk1 (Nat.le_refl _) (by omega)) (Ext.refl _)).old (fr_zm.inl.inl.inr.mk1 (Nat.le_refl _) (by omega))) ((OwnSl.up ho_zm3 (fr_zm.inl.inr.mk1 (Nat.le_refl _) (by omega)) (Ext.refl _)).old (fr_zm.inl.inr.mk1 (Nat.le_refl _) (by omega))) ((OwnSl.up ho_zm4 (fr_zm.inr.mk1 (Nat.le_refl _) (by omega)) (Ext.refl _)).old (fr_zm.inr.mk1 (Nat.le_refl _) (by omega))) (by omega) (by omega) (by omega) (by omega) hkb (by omega)).mono ?_
          rintro e w22 ⟨r_h1, r_h2, r_h3, r_h4, F_h1, F_h2, F_h3, F_h4, rfl, ho_h1, ho_h2, ho_h3, ho_h4, hf_h, hy⟩
          refine hK.out _ _ (Ext.trans (Ext.trans hx20 hx21) hy) ?_
          clear hK
          (try simp only [Act.put, List.setIfInBounds_toArray, List.set_cons_zero, List.set_cons_succ])
          have hx22 : Ext w21 w22 := Ext.trans (Ext.auto) hy
          have hs22 := hx22.size
          have he22 : Ext w w22 := he21.trans hx22
          have hBb_22 : Bx w22 (w.heap.size) [.int .i64 b.pc, .int .i64 b.len, (.slice Ab1 b.ops.length cb1), .int .i64 b.fin, .int .i64 b.x, .int .i64 b.y, .int .i64 b.k] := hx22.bx hBb_21 (by omega)
          have hFb_22 : ∀ oo, w22.frozen? ⟨w.heap.size, oo, none⟩ = false := fun oo => (hx22.frozen (by omega)).trans (hFb_21 oo)
          have hBm_22 : Bx w22 (w.heap.size + 1) [(.slice Am1 m.regs.length cm1), .int .i64 m.pc, (.slice Am2 m.mem.length cm2), .int .i64 m.save, .bool m.lets, .bool m.waits, .int .i64 m.halt, (.slice Am3 m.ins.length cm3), (.slice Am4 m.outs.length cm4), .int .i64 m.count] := hx22.bx hBm_21 (by omega)
          have hFm_22 : ∀ oo, w22.frozen? ⟨w.heap.size + 1, oo, none⟩ = false := fun oo => (hx22.frozen (by omega)).trans (hFm_21 oo)
          have hBw_22 : Bx w22 (q_w) [(.slice A_w1 ((irRun b m).regs).length c_w1), .int .i64 ((irRun b m).pc), (.slice A_w2 ((irRun b m).mem).length c_w2), .int .i64 ((irRun b m).save), .bool (irRun b m).lets, .bool (irRun b m).waits, .int .i64 ((irRun b m).halt), (.slice A_w3 ((irRun b m).ins).length c_w3), (.slice A_w4 ((irRun b m).outs).length c_w4), .int .i64 ((irRun b m).count)] := hx22.bx hBw_21 (by omega)
          have hFw_22 : ∀ oo, w22.frozen? ⟨q_w, oo, none⟩ = false := fun oo => (hx22.frozen (by omega)).trans (hFw_21 oo)
          have hBxb_22 : Bx w22 (w4.heap.size) [.int .i64 b.pc, .int .i64 b.len, (.slice A_xb1 (b.ops).length c_xb1), .int .i64 b.fin, .int .i64 b.x, .int .i64 b.y, .int .i64 b.k] := hx22.bx hBxb_21 (by omega)
          have hFxb_22 : ∀ oo, w22.frozen? ⟨w4.heap.size, oo, none⟩ = false := fun oo => (hx22.frozen (by omega)).trans (hFxb_21 oo)
          have hBxm_22 : Bx w22 (w6.heap.size) [(.slice A_xm1 (m.regs).length c_xm1), .int .i64 m.pc, (.slice A_xm2 (m.mem).length c_xm2), .int .i64 m.save, .bool m.lets, .bool m.waits, .int .i64 m.halt, (.slice A_xm3 (m.ins).length c_xm3), (.slice A_xm4 (m.outs).length c_xm4), .int .i64 m.count] := hx22.bx hBxm_21 (by omega)
          have hFxm_22 : ∀ oo, w22.frozen? ⟨w6.heap.size, oo, none⟩ = false := fun oo => (hx22.frozen (by omega)).trans (hFxm_21 oo)
          have hBg_22 : Bx w22 (w8.heap.size) [(.slice A_g1 ((irRun b m).regs).length c_g1), .int .i64 ((irRun b m).pc), (.slice A_g2 ((irRun b m).mem).length c_g2), .int .i64 ((irRun b m).save), .bool (irRun b m).lets, .bool (irRun b m).waits, .int .i64 ((irRun b m).halt), (.slice A_g3 ((irRun b m).ins).length c_g3), (.slice A_g4 ((irRun b m).outs).length c_g4), .int .i64 ((irRun b m).count)] := hx22.bx hBg_21 (by omega)
          have hFg_22 : ∀ oo, w22.frozen? ⟨w8.heap.size, oo, none⟩ = false := fun oo => (hx22.frozen (by omega)).trans (hFg_21 oo)
          clear hBb_21 hFb_21 hBm_21 hFm_21 hBw_21 hFw_21 hBxb_21 hFxb_21 hBxm_21 hFxm_21 hBg_21 hFg_21
          clear hy
          obtain ⟨A_h1, c_h1, rfl, -, -⟩ := ho_h1.sl.form
          obtain ⟨A_h2, c_h2, rfl, -, -⟩ := ho_h2.sl.form
          obtain ⟨A_h3, c_h3, rfl, -, -⟩ := ho_h3.sl.form
          obtain ⟨A_h4, c_h4, rfl, -, -⟩ := ho_h4.sl.form
          have fr_h : Fr w21 w22 (F_h1 ++ F_h2 ++ F_h3 ++ F_h4) := hf_h.mk1 (by first | exact Nat.le_refl _ | (simp; done)) (Nat.le_refl _)
          clear hf_h
          iterate 3 ((refine Plan.float_step (v := ?_) rfl (by rfl) (fun _ _ _ h => h) (fun w' hSw => ?_) ?_; rotate_left; · (go_simp; try with_reducible rfl)); (try simp only [Act.put, List.setIfInBounds_toArray, List.set_cons_zero, List.set_cons_succ]))
          refine Plan.chain_step rfl (fun K hK => ?_)
          go_simp
          refine hK.out _ _ (Ext.trans (Ext.trans (Ext.trans hx20 hx21) hx22) (show Ext w22 (w22.alloc (.cells #[.slice none 0 0, .int .i64 0, .slice none 0 0, .int .i64 0, .bool false, .bool false, .int .i64 0, .slice none 0 0, .slice none 0 0, .int .i64 0] 46)) from Ext.auto)) ?_
          clear hK
          (try simp only [Act.put, List.setIfInBounds_toArray, List.set_cons_zero, List.set_cons_succ])
          have hyA : Ext w22 (w22.alloc (.cells #[.slice none 0 0, .int .i64 0, .slice none 0 0, .int .i64 0, .bool false, .bool false, .int .i64 0, .slice none 0 0, .slice none 0 0, .int .i64 0] 46)) := Ext.auto
          have hsA : w22.heap.size < (w22.alloc (.cells #[.slice none 0 0, .int .i64 0, .slice none 0 0, .int .i64 0, .bool false, .bool false, .int .i64 0, .slice none 0 0, .slice none 0 0, .int .i64 0] 46)).heap.size := by simp
          have hBA : Bx (w22.alloc (.cells #[.slice none 0 0, .int .i64 0, .slice none 0 0, .int .i64 0, .bool false, .bool false, .int .i64 0, .slice none 0 0, .slice none 0 0, .int .i64 0] 46)) w22.heap.size [.slice none 0 0, .int .i64 0, .slice none 0 0, .int .i64 0, .bool false, .bool false, .int .i64 0, .slice none 0 0, .slice none 0 0, .int .i64 0] := Bx.new w22 #[.slice none 0 0, .int .i64 0, .slice none 0 0, .int .i64 0, .bool false, .bool false, .int .i64 0, .slice none 0 0, .slice none 0 0, .int .i64 0] 46
          have hFA : ∀ oo, (w22.alloc (.cells #[.slice none 0 0, .int .i64 0, .slice none 0 0, .int .i64 0, .bool false, .bool false, .int .i64 0, .slice none 0 0, .slice none 0 0, .int .i64 0] 46)).frozen? ⟨w22.heap.size, oo, none⟩ = false := fz_new w22 #[.slice none 0 0, .int .i64 0, .slice none 0 0, .int .i64 0, .bool false, .bool false, .int .i64 0, .slice none 0 0, .slice none 0 0, .int .i64 0] 46 rfl
          generalize (w22.alloc (.cells #[.slice none 0 0, .int .i64 0, .slice none 0 0, .int .i64 0, .bool false, .bool false, .int .i64 0, .slice none 0 0, .slice none 0 0, .int .i64 0] 46)) = w23 at *
          have hx23 : Ext w22 w23 := Ext.trans (Ext.auto) hyA
          have hs23 := hx23.size
          have he23 : Ext w w23 := he22.trans hx23
          have hBb_23 : Bx w23 (w.heap.size) [.int .i64 b.pc, .int .i64 b.len, (.slice Ab1 b.ops.length cb1), .int .i64 b.fin, .int .i64 b.x, .int .i64 b.y, .int .i64 b.k] := hx23.bx hBb_22 (by omega)
          have hFb_23 : ∀ oo, w23.frozen? ⟨w.heap.size, oo, none⟩ = false := fun oo => (hx23.frozen (by omega)).trans (hFb_22 oo)
          have hBm_23 : Bx w23 (w.heap.size + 1) [(.slice Am1 m.regs.length cm1), .int .i64 m.pc, (.slice Am2 m.mem.length cm2), .int .i64 m.save, .bool m.lets, .bool m.waits, .int .i64 m.halt, (.slice Am3 m.ins.length cm3), (.slice Am4 m.outs.length cm4), .int .i64 m.count] := hx23.bx hBm_22 (by omega)
          have hFm_23 : ∀ oo, w23.frozen? ⟨w.heap.size + 1, oo, none⟩ = false := fun oo => (hx23.frozen (by omega)).trans (hFm_22 oo)
          have hBw_23 : Bx w23 (q_w) [(.slice A_w1 ((irRun b m).regs).length c_w1), .int .i64 ((irRun b m).pc), (.slice A_w2 ((irRun b m).mem).length c_w2), .int .i64 ((irRun b m).save), .bool (irRun b m).lets, .bool (irRun b m).waits, .int .i64 ((irRun b m).halt), (.slice A_w3 ((irRun b m).ins).length c_w3), (.slice A_w4 ((irRun b m).outs).length c_w4), .int .i64 ((irRun b m).count)] := hx23.bx hBw_22 (by omega)
          have hFw_23 : ∀ oo, w23.frozen? ⟨q_w, oo, none⟩ = false := fun oo => (hx23.frozen (by omega)).trans (hFw_22 oo)
          have hBxb_23 : Bx w23 (w4.heap.size) [.int .i64 b.pc, .int .i64 b.len, (.slice A_xb1 (b.ops).length c_xb1), .int .i64 b.fin, .int .i64 b.x, .int .i64 b.y, .int .i64 b.k] := hx23.bx hBxb_22 (by omega)
          have hFxb_23 : ∀ oo, w23.frozen? ⟨w4.heap.size, oo, none⟩ = false := fun oo => (hx23.frozen (by omega)).trans (hFxb_22 oo)
          have hBxm_23 : Bx w23 (w6.heap.size) [(.slice A_xm1 (m.regs).length c_xm1), .int .i64 m.pc, (.slice A_xm2 (m.mem).length c_xm2), .int .i64 m.save, .bool m.lets, .bool m.waits, .int .i64 m.halt, (.slice A_xm3 (m.ins).length c_xm3), (.slice A_xm4 (m.outs).length c_xm4), .int .i64 m.count] := hx23.bx hBxm_22 (by omega)
          have hFxm_23 : ∀ oo, w23.frozen? ⟨w6.heap.size, oo, none⟩ = false := fun oo => (hx23.frozen (by omega)).trans (hFxm_22 oo)
          have hBg_23 : Bx w23 (w8.heap.size) [(.slice A_g1 ((irRun b m).regs).length c_g1), .int .i64 ((irRun b m).pc), (.slice A_g2 ((irRun b m).mem).length c_g2), .int .i64 ((irRun b m).save), .bool (irRun b m).lets, .bool (irRun b m).waits, .int .i64 ((irRun b m).halt), (.slice A_g3 ((irRun b m).ins).length c_g3), (.slice A_g4 ((irRun b m).outs).length c_g4), .int .i64 ((irRun b m).count)] := hx23.bx hBg_22 (by omega)
          have hFg_23 : ∀ oo, w23.frozen? ⟨w8.heap.size, oo, none⟩ = false := fun oo => (hx23.frozen (by omega)).trans (hFg_22 oo)
          clear hBb_22 hFb_22 hBm_22 hFm_22 hBw_22 hFw_22 hBxb_22 hFxb_22 hBxm_22 hFxm_22 hBg_22 hFg_22
          have hBq_23 := hBA
          have hFq_23 := hFA
          clear hBA hFA hyA
          have yq : w22.heap.size < w23.heap.size := by omega
          have xq0 := hBq_23 0 _ rfl
          have xq1 := hBq_23 1 _ rfl
          have xq2 := hBq_23 2 _ rfl
          have xq3 := hBq_23 3 _ rfl
          have xq4 := hBq_23 4 _ rfl
          have xq5 := hBq_23 5 _ rfl
          have xq6 := hBq_23 6 _ rfl
          have xq7 := hBq_23 7 _ rfl
          have xq8 := hBq_23 8 _ rfl
          have xq9 := hBq_23 9 _ rfl
          have fq := hFq_23
          refine Plan.chain_step rfl (fun K hK => ?_)
          go_simp
          have hcl : Ext w19 w23 := (Ext.trans (Ext.trans (Ext.trans hx20 hx21) hx22) hx23)
          refine hK.out _ _ (Ext.hold hcl) ?_
          clear hK
          (try simp only [Act.put, List.setIfInBounds_toArray, List.set_cons_zero, List.set_cons_succ])
          refine Plan.tail_step ?_
          simp only [List.drop_succ_cons, List.drop_zero]
          clear hS
          go_wp2_with fail
          go_meet
          exact ⟨w22.heap.size, _, _, _, _, _, _, _, _, F_h1, F_h2, F_h3, F_h4, rfl, rfl, Ext.hold hcl, (by omega), (by first | omega | (simp; omega)), hBq_23.store10 rfl _ _ _ _ _ _ _ _ _ _, fz_hold hFq_23, OwnSl.stay (OwnSl.up ho_h1 (fr_h.inl.inl.inl.mk1 (Nat.le_refl _) (by omega)) hx23) (fun z hb => by
              have q := fr_h.inl.inl.inl.2 z hb; have q1 := q.1; have q2 := q.2
              repeat (first | rw [heap_set _ _ _ _ (by show _ ≠ z; omega)] | rw [heap_set _ _ _ _ (by simp; omega)])), OwnSl.stay (OwnSl.up ho_h2 (fr_h.inl.inl.inr.mk1 (Nat.le_refl _) (by omega)) hx23) (fun z hb => by
              have q := fr_h.inl.inl.inr.2 z hb; have q1 := q.1; have q2 := q.2
              repeat (first | rw [heap_set _ _ _ _ (by show _ ≠ z; omega)] | rw [heap_set _ _ _ _ (by simp; omega)])), OwnSl.stay (OwnSl.up ho_h3 (fr_h.inl.inr.mk1 (Nat.le_refl _) (by omega)) hx23) (fun z hb => by
              have q := fr_h.inl.inr.2 z hb; have q1 := q.1; have q2 := q.2
              repeat (first | rw [heap_set _ _ _ _ (by show _ ≠ z; omega)] | rw [heap_set _ _ _ _ (by simp; omega)])), OwnSl.stay (OwnSl.up ho_h4 (fr_h.inr.mk1 (Nat.le_refl _) (by omega)) hx23) (fun z hb => by
              have q := fr_h.inr.2 z hb; have q1 := q.1; have q2 := q.2
              repeat (first | rw [heap_set _ _ _ _ (by show _ ≠ z; omega)] | rw [heap_set _ _ _ _ (by simp; omega)])), fr_h.mk1 (by first | omega | (simp; done) | (simp; omega)) (by first | omega | (simp; done) | (simp; omega))⟩
        · 
          refine Plan.chain_step rfl (fun K hK => ?_)
          go_simp
          refine hK.out _ _ (Ext.trans (Ext.trans hx20 hx21) (show Ext w21 (w21.alloc (.cells #[.slice none 0 0, .int .i64 0, .slice none 0 0, .int .i64 0, .bool false, .bool false, .int .i64 0, .slice none 0 0, .slice none 0 0, .int .i64 0] 46)) from Ext.auto)) ?_
          clear hK
          (try simp only [Act.put, List.setIfInBounds_toArray, List.set_cons_zero, List.set_cons_succ])
          have hyA : Ext w21 (w21.alloc (.cells #[.slice none 0 0, .int .i64 0, .slice none 0 0, .int .i64 0, .bool false, .bool false, .int .i64 0, .slice none 0 0, .slice none 0 0, .int .i64 0] 46)) := Ext.auto
          have hsA : w21.heap.size < (w21.alloc (.cells #[.slice none 0 0, .int .i64 0, .slice none 0 0, .int .i64 0, .bool false, .bool false, .int .i64 0, .slice none 0 0, .slice none 0 0, .int .i64 0] 46)).heap.size := by simp
          have hBA : Bx (w21.alloc (.cells #[.slice none 0 0, .int .i64 0, .slice none 0 0, .int .i64 0, .bool false, .bool false, .int .i64 0, .slice none 0 0, .slice none 0 0, .int .i64 0] 46)) w21.heap.size [.slice none 0 0, .int .i64 0, .slice none 0 0, .int .i64 0, .bool false, .bool false, .int .i64 0, .slice none 0 0, .slice none 0 0, .int .i64 0] := Bx.new w21 #[.slice none 0 0, .int .i64 0, .slice none 0 0, .int .i64 0, .bool false, .bool false, .int .i64 0, .slice none 0 0, .slice none 0 0, .int .i64 0] 46
          have hFA : ∀ oo, (w21.alloc (.cells #[.slice none 0 0, .int .i64 0, .slice none 0 0, .int .i64 0, .bool false, .bool false, .int .i64 0, .slice none 0 0, .slice none 0 0, .int .i64 0] 46)).frozen? ⟨w21.heap.size, oo, none⟩ = false := fz_new w21 #[.slice none 0 0, .int .i64 0, .slice none 0 0, .int .i64 0, .bool false, .bool false, .int .i64 0, .slice none 0 0, .slice none 0 0, .int .i64 0] 46 rfl
          generalize (w21.alloc (.cells #[.slice none 0 0, .int .i64 0, .slice none 0 0, .int .i64 0, .bool false, .bool false, .int .i64 0, .slice none 0 0, .slice none 0 0, .int .i64 0] 46)) = w22 at *
          have hx22 : Ext w21 w22 := Ext.trans (Ext.auto) hyA
          have hs22 := hx22.size
          have he22 : Ext w w22 := he21.trans hx22
          have hBb_22 : Bx w22 (w.heap.size) [.int .i64 b.pc, .int .i64 b.len, (.slice Ab1 b.ops.length cb1), .int .i64 b.fin, .int .i64 b.x, .int .i64 b.y, .int .i64 b.k] := hx22.bx hBb_21 (by omega)
          have hFb_22 : ∀ oo, w22.frozen? ⟨w.heap.size, oo, none⟩ = false := fun oo => (hx22.frozen (by omega)).trans (hFb_21 oo)
          have hBm_22 : Bx w22 (w.heap.size + 1) [(.slice Am1 m.regs.length cm1), .int .i64 m.pc, (.slice Am2 m.mem.length cm2), .int .i64 m.save, .bool m.lets, .bool m.waits, .int .i64 m.halt, (.slice Am3 m.ins.length cm3), (.slice Am4 m.outs.length cm4), .int .i64 m.count] := hx22.bx hBm_21 (by omega)
          have hFm_22 : ∀ oo, w22.frozen? ⟨w.heap.size + 1, oo, none⟩ = false := fun oo => (hx22.frozen (by omega)).trans (hFm_21 oo)
          have hBw_22 : Bx w22 (q_w) [(.slice A_w1 ((irRun b m).regs).length c_w1), .int .i64 ((irRun b m).pc), (.slice A_w2 ((irRun b m).mem).length c_w2), .int .i64 ((irRun b m).save), .bool (irRun b m).lets, .bool (irRun b m).waits, .int .i64 ((irRun b m).halt), (.slice A_w3 ((irRun b m).ins).length c_w3), (.slice A_w4 ((irRun b m).outs).length c_w4), .int .i64 ((irRun b m).count)] := hx22.bx hBw_21 (by omega)
          have hFw_22 : ∀ oo, w22.frozen? ⟨q_w, oo, none⟩ = false := fun oo => (hx22.frozen (by omega)).trans (hFw_21 oo)
          have hBxb_22 : Bx w22 (w4.heap.size) [.int .i64 b.pc, .int .i64 b.len, (.slice A_xb1 (b.ops).length c_xb1), .int .i64 b.fin, .int .i64 b.x, .int .i64 b.y, .int .i64 b.k] := hx22.bx hBxb_21 (by omega)
          have hFxb_22 : ∀ oo, w22.frozen? ⟨w4.heap.size, oo, none⟩ = false := fun oo => (hx22.frozen (by omega)).trans (hFxb_21 oo)
          have hBxm_22 : Bx w22 (w6.heap.size) [(.slice A_xm1 (m.regs).length c_xm1), .int .i64 m.pc, (.slice A_xm2 (m.mem).length c_xm2), .int .i64 m.save, .bool m.lets, .bool m.waits, .int .i64 m.halt, (.slice A_xm3 (m.ins).length c_xm3), (.slice A_xm4 (m.outs).length c_xm4), .int .i64 m.count] := hx22.bx hBxm_21 (by omega)
          have hFxm_22 : ∀ oo, w22.frozen? ⟨w6.heap.size, oo, none⟩ = false := fun oo => (hx22.frozen (by omega)).trans (hFxm_21 oo)
          have hBg_22 : Bx w22 (w8.heap.size) [(.slice A_g1 ((irRun b m).regs).length c_g1), .int .i64 ((irRun b m).pc), (.slice A_g2 ((irRun b m).mem).length c_g2), .int .i64 ((irRun b m).save), .bool (irRun b m).lets, .bool (irRun b m).waits, .int .i64 ((irRun b m).halt), (.slice A_g3 ((irRun b m).ins).length c_g3), (.slice A_g4 ((irRun b m).outs).length c_g4), .int .i64 ((irRun b m).count)] := hx22.bx hBg_21 (by omega)
          have hFg_22 : ∀ oo, w22.frozen? ⟨w8.heap.size, oo, none⟩ = false := fun oo => (hx22.frozen (by omega)).trans (hFg_21 oo)
          clear hBb_21 hFb_21 hBm_21 hFm_21 hBw_21 hFw_21 hBxb_21 hFxb_21 hBxm_21 hFxm_21 hBg_21 hFg_21
          have hBq_22 := hBA
          have hFq_22 := hFA
          clear hBA hFA hyA
          refine Plan.chain_step rfl (fun K hK => ?_)
          go_simp
          refine (implIrRun_p b m _ _ _ _ _ _ ((OwnSl.up ho_zb1 (fr_zb.mk1 (Nat.le_refl _) (by omega)) (Ext.trans hx21 hx22)).old (fr_zb.mk1 (Nat.le_refl _) (by omega))) ((OwnSl.up ho_zm1 (fr_zm.inl.inl.inl.mk1 (Nat.le_refl _) (by omega)) hx22).old (fr_zm.inl.inl.inl.mk1 (Nat.le_refl _) (by omega))) ((OwnSl.up ho_zm2 (fr_zm.inl.inl.inr.mk1 (Nat.le_refl _) (by omega)) hx22).old (fr_zm.inl.inl.inr.mk1 (Nat.le_refl _) (by omega))) ((OwnSl.up ho_zm3 (fr_zm.inl.inr.mk1 (Nat.le_refl _) (by omega)) hx22).old (fr_zm.inl.inr.mk1 (Nat.le_refl _) (by omega))) ((OwnSl.up ho_zm4 (fr_zm.inr.mk1 (Nat.le_refl _) (by omega)) hx22).old (fr_zm.inr.mk1 (Nat.le_refl _) (by omega))) (by omega) (by omega) (by omega) (by omega) hkb (by omega)).mono ?_
          rintro e w23 ⟨r_h1, r_h2, r_h3, r_h4, F_h1, F_h2, F_h3, F_h4, rfl, ho_h1, ho_h2, ho_h3, ho_h4, hf_h, hy⟩
          refine hK.out _ _ (Ext.trans (Ext.trans (Ext.trans hx20 hx21) hx22) hy) ?_
          clear hK
          (try simp only [Act.put, List.setIfInBounds_toArray, List.set_cons_zero, List.set_cons_succ])
          have hx23 : Ext w22 w23 := Ext.trans (Ext.auto) hy
          have hs23 := hx23.size
          have he23 : Ext w w23 := he22.trans hx23
          have hBb_23 : Bx w23 (w.heap.size) [.int .i64 b.pc, .int .i64 b.len, (.slice Ab1 b.ops.length cb1), .int .i64 b.fin, .int .i64 b.x, .int .i64 b.y, .int .i64 b.k] := hx23.bx hBb_22 (by omega)
          have hFb_23 : ∀ oo, w23.frozen? ⟨w.heap.size, oo, none⟩ = false := fun oo => (hx23.frozen (by omega)).trans (hFb_22 oo)
          have hBm_23 : Bx w23 (w.heap.size + 1) [(.slice Am1 m.regs.length cm1), .int .i64 m.pc, (.slice Am2 m.mem.length cm2), .int .i64 m.save, .bool m.lets, .bool m.waits, .int .i64 m.halt, (.slice Am3 m.ins.length cm3), (.slice Am4 m.outs.length cm4), .int .i64 m.count] := hx23.bx hBm_22 (by omega)
          have hFm_23 : ∀ oo, w23.frozen? ⟨w.heap.size + 1, oo, none⟩ = false := fun oo => (hx23.frozen (by omega)).trans (hFm_22 oo)
          have hBw_23 : Bx w23 (q_w) [(.slice A_w1 ((irRun b m).regs).length c_w1), .int .i64 ((irRun b m).pc), (.slice A_w2 ((irRun b m).mem).length c_w2), .int .i64 ((irRun b m).save), .bool (irRun b m).lets, .bool (irRun b m).waits, .int .i64 ((irRun b m).halt), (.slice A_w3 ((irRun b m).ins).length c_w3), (.slice A_w4 ((irRun b m).outs).length c_w4), .int .i64 ((irRun b m).count)] := hx23.bx hBw_22 (by omega)
          have hFw_23 : ∀ oo, w23.frozen? ⟨q_w, oo, none⟩ = false := fun oo => (hx23.frozen (by omega)).trans (hFw_22 oo)
          have hBxb_23 : Bx w23 (w4.heap.size) [.int .i64 b.pc, .int .i64 b.len, (.slice A_xb1 (b.ops).length c_xb1), .int .i64 b.fin, .int .i64 b.x, .int .i64 b.y, .int .i64 b.k] := hx23.bx hBxb_22 (by omega)
          have hFxb_23 : ∀ oo, w23.frozen? ⟨w4.heap.size, oo, none⟩ = false := fun oo => (hx23.frozen (by omega)).trans (hFxb_22 oo)
          have hBxm_23 : Bx w23 (w6.heap.size) [(.slice A_xm1 (m.regs).length c_xm1), .int .i64 m.pc, (.slice A_xm2 (m.mem).length c_xm2), .int .i64 m.save, .bool m.lets, .bool m.waits, .int .i64 m.halt, (.slice A_xm3 (m.ins).length c_xm3), (.slice A_xm4 (m.outs).length c_xm4), .int .i64 m.count] := hx23.bx hBxm_22 (by omega)
          have hFxm_23 : ∀ oo, w23.frozen? ⟨w6.heap.size, oo, none⟩ = false := fun oo => (hx23.frozen (by omega)).trans (hFxm_22 oo)
          have hBg_23 : Bx w23 (w8.heap.size) [(.slice A_g1 ((irRun b m).regs).length c_g1), .int .i64 ((irRun b m).pc), (.slice A_g2 ((irRun b m).mem).length c_g2), .int .i64 ((irRun b m).save), .bool (irRun b m).lets, .bool (irRun b m).waits, .int .i64 ((irRun b m).halt), (.slice A_g3 ((irRun b m).ins).length c_g3), (.slice A_g4 ((irRun b m).outs).length c_g4), .int .i64 ((irRun b m).count)] := hx23.bx hBg_22 (by omega)
          have hFg_23 : ∀ oo, w23.frozen? ⟨w8.heap.size, oo, none⟩ = false := fun oo => (hx23.frozen (by omega)).trans (hFg_22 oo)
          have hBq_23 : Bx w23 (w21.heap.size) [.slice none 0 0, .int .i64 0, .slice none 0 0, .int .i64 0, .bool false, .bool false, .int .i64 0, .slice none 0 0, .slice none 0 0, .int .i64 0] := hx23.bx hBq_22 (by omega)
          have hFq_23 : ∀ oo, w23.frozen? ⟨w21.heap.size, oo, none⟩ = false := fun oo => (hx23.frozen (by omega)).trans (hFq_22 oo)
          clear hBb_22 hFb_22 hBm_22 hFm_22 hBw_22 hFw_22 hBxb_22 hFxb_22 hBxm_22 hFxm_22 hBg_22 hFg_22 hBq_22 hFq_22
          clear hy
          obtain ⟨A_h1, c_h1, rfl, -, -⟩ := ho_h1.sl.form
          obtain ⟨A_h2, c_h2, rfl, -, -⟩ := ho_h2.sl.form
          obtain ⟨A_h3, c_h3, rfl, -, -⟩ := ho_h3.sl.form
          obtain ⟨A_h4, c_h4, rfl, -, -⟩ := ho_h4.sl.form
          have fr_h : Fr w22 w23 (F_h1 ++ F_h2 ++ F_h3 ++ F_h4) := hf_h.mk1 (by first | exact Nat.le_refl _ | (simp; done)) (Nat.le_refl _)
          clear hf_h
          iterate 3 ((refine Plan.float_step (v := ?_) rfl (by rfl) (fun _ _ _ h => h) (fun w' hSw => ?_) ?_; rotate_left; · (go_simp; try with_reducible rfl)); (try simp only [Act.put, List.setIfInBounds_toArray, List.set_cons_zero, List.set_cons_succ]))
          have yq : w21.heap.size < w23.heap.size := by omega
          have xq0 := hBq_23 0 _ rfl
          have xq1 := hBq_23 1 _ rfl
          have xq2 := hBq_23 2 _ rfl
          have xq3 := hBq_23 3 _ rfl
          have xq4 := hBq_23 4 _ rfl
          have xq5 := hBq_23 5 _ rfl
          have xq6 := hBq_23 6 _ rfl
          have xq7 := hBq_23 7 _ rfl
          have xq8 := hBq_23 8 _ rfl
          have xq9 := hBq_23 9 _ rfl
          have fq := hFq_23
          refine Plan.chain_step rfl (fun K hK => ?_)
          go_simp
          have hcl : Ext w19 w23 := (Ext.trans (Ext.trans (Ext.trans hx20 hx21) hx22) hx23)
          refine hK.out _ _ (Ext.hold hcl) ?_
          clear hK
          (try simp only [Act.put, List.setIfInBounds_toArray, List.set_cons_zero, List.set_cons_succ])
          refine Plan.tail_step ?_
          simp only [List.drop_succ_cons, List.drop_zero]
          clear hS
          go_wp2_with fail
          go_meet
          exact ⟨w21.heap.size, _, _, _, _, _, _, _, _, F_h1, F_h2, F_h3, F_h4, rfl, rfl, Ext.hold hcl, (by omega), (by first | omega | (simp; omega)), hBq_23.store10 rfl _ _ _ _ _ _ _ _ _ _, fz_hold hFq_23, OwnSl.stay (OwnSl.up ho_h1 (fr_h.inl.inl.inl.mk1 (Nat.le_refl _) (by omega)) (Ext.refl _)) (fun z hb => by
              have q := fr_h.inl.inl.inl.2 z hb; have q1 := q.1; have q2 := q.2
              repeat (first | rw [heap_set _ _ _ _ (by show _ ≠ z; omega)] | rw [heap_set _ _ _ _ (by simp; omega)])), OwnSl.stay (OwnSl.up ho_h2 (fr_h.inl.inl.inr.mk1 (Nat.le_refl _) (by omega)) (Ext.refl _)) (fun z hb => by
              have q := fr_h.inl.inl.inr.2 z hb; have q1 := q.1; have q2 := q.2
              repeat (first | rw [heap_set _ _ _ _ (by show _ ≠ z; omega)] | rw [heap_set _ _ _ _ (by simp; omega)])), OwnSl.stay (OwnSl.up ho_h3 (fr_h.inl.inr.mk1 (Nat.le_refl _) (by omega)) (Ext.refl _)) (fun z hb => by
              have q := fr_h.inl.inr.2 z hb; have q1 := q.1; have q2 := q.2
              repeat (first | rw [heap_set _ _ _ _ (by show _ ≠ z; omega)] | rw [heap_set _ _ _ _ (by simp; omega)])), OwnSl.stay (OwnSl.up ho_h4 (fr_h.inr.mk1 (Nat.le_refl _) (by omega)) (Ext.refl _)) (fun z hb => by
              have q := fr_h.inr.2 z hb; have q1 := q.1; have q2 := q.2
              repeat (first | rw [heap_set _ _ _ _ (by show _ ≠ z; omega)] | rw [heap_set _ _ _ _ (by simp; omega)])), fr_h.mk1 (by first | omega | (simp; done) | (simp; omega)) (by first | omega | (simp; done) | (simp; omega))⟩
      · 
        refine Plan.chain_step rfl (fun K hK => ?_)
        go_simp
        refine hK.out _ _ (Ext.trans hx20 (show Ext w20 (w20.alloc (.cells #[.slice none 0 0, .int .i64 0, .slice none 0 0, .int .i64 0, .bool false, .bool false, .int .i64 0, .slice none 0 0, .slice none 0 0, .int .i64 0] 46)) from Ext.auto)) ?_
        clear hK
        (try simp only [Act.put, List.setIfInBounds_toArray, List.set_cons_zero, List.set_cons_succ])
        have hyA : Ext w20 (w20.alloc (.cells #[.slice none 0 0, .int .i64 0, .slice none 0 0, .int .i64 0, .bool false, .bool false, .int .i64 0, .slice none 0 0, .slice none 0 0, .int .i64 0] 46)) := Ext.auto
        have hsA : w20.heap.size < (w20.alloc (.cells #[.slice none 0 0, .int .i64 0, .slice none 0 0, .int .i64 0, .bool false, .bool false, .int .i64 0, .slice none 0 0, .slice none 0 0, .int .i64 0] 46)).heap.size := by simp
        have hBA : Bx (w20.alloc (.cells #[.slice none 0 0, .int .i64 0, .slice none 0 0, .int .i64 0, .bool false, .bool false, .int .i64 0, .slice none 0 0, .slice none 0 0, .int .i64 0] 46)) w20.heap.size [.slice none 0 0, .int .i64 0, .slice none 0 0, .int .i64 0, .bool false, .bool false, .int .i64 0, .slice none 0 0, .slice none 0 0, .int .i64 0] := Bx.new w20 #[.slice none 0 0, .int .i64 0, .slice none 0 0, .int .i64 0, .bool false, .bool false, .int .i64 0, .slice none 0 0, .slice none 0 0, .int .i64 0] 46
        have hFA : ∀ oo, (w20.alloc (.cells #[.slice none 0 0, .int .i64 0, .slice none 0 0, .int .i64 0, .bool false, .bool false, .int .i64 0, .slice none 0 0, .slice none 0 0, .int .i64 0] 46)).frozen? ⟨w20.heap.size, oo, none⟩ = false := fz_new w20 #[.slice none 0 0, .int .i64 0, .slice none 0 0, .int .i64 0, .bool false, .bool false, .int .i64 0, .slice none 0 0, .slice none 0 0, .int .i64 0] 46 rfl
        generalize (w20.alloc (.cells #[.slice none 0 0, .int .i64 0, .slice none 0 0, .int .i64 0, .bool false, .bool false, .int .i64 0, .slice none 0 0, .slice none 0 0, .int .i64 0] 46)) = w21 at *
        have hx21 : Ext w20 w21 := Ext.trans (Ext.auto) hyA
        have hs21 := hx21.size
        have he21 : Ext w w21 := he20.trans hx21
        have hBb_21 : Bx w21 (w.heap.size) [.int .i64 b.pc, .int .i64 b.len, (.slice Ab1 b.ops.length cb1), .int .i64 b.fin, .int .i64 b.x, .int .i64 b.y, .int .i64 b.k] := hx21.bx hBb_20 (by omega)
        have hFb_21 : ∀ oo, w21.frozen? ⟨w.heap.size, oo, none⟩ = false := fun oo => (hx21.frozen (by omega)).trans (hFb_20 oo)
        have hBm_21 : Bx w21 (w.heap.size + 1) [(.slice Am1 m.regs.length cm1), .int .i64 m.pc, (.slice Am2 m.mem.length cm2), .int .i64 m.save, .bool m.lets, .bool m.waits, .int .i64 m.halt, (.slice Am3 m.ins.length cm3), (.slice Am4 m.outs.length cm4), .int .i64 m.count] := hx21.bx hBm_20 (by omega)
        have hFm_21 : ∀ oo, w21.frozen? ⟨w.heap.size + 1, oo, none⟩ = false := fun oo => (hx21.frozen (by omega)).trans (hFm_20 oo)
        have hBw_21 : Bx w21 (q_w) [(.slice A_w1 ((irRun b m).regs).length c_w1), .int .i64 ((irRun b m).pc), (.slice A_w2 ((irRun b m).mem).length c_w2), .int .i64 ((irRun b m).save), .bool (irRun b m).lets, .bool (irRun b m).waits, .int .i64 ((irRun b m).halt), (.slice A_w3 ((irRun b m).ins).length c_w3), (.slice A_w4 ((irRun b m).outs).length c_w4), .int .i64 ((irRun b m).count)] := hx21.bx hBw_20 (by omega)
        have hFw_21 : ∀ oo, w21.frozen? ⟨q_w, oo, none⟩ = false := fun oo => (hx21.frozen (by omega)).trans (hFw_20 oo)
        have hBxb_21 : Bx w21 (w4.heap.size) [.int .i64 b.pc, .int .i64 b.len, (.slice A_xb1 (b.ops).length c_xb1), .int .i64 b.fin, .int .i64 b.x, .int .i64 b.y, .int .i64 b.k] := hx21.bx hBxb_20 (by omega)
        have hFxb_21 : ∀ oo, w21.frozen? ⟨w4.heap.size, oo, none⟩ = false := fun oo => (hx21.frozen (by omega)).trans (hFxb_20 oo)
        have hBxm_21 : Bx w21 (w6.heap.size) [(.slice A_xm1 (m.regs).length c_xm1), .int .i64 m.pc, (.slice A_xm2 (m.mem).length c_xm2), .int .i64 m.save, .bool m.lets, .bool m.waits, .int .i64 m.halt, (.slice A_xm3 (m.ins).length c_xm3), (.slice A_xm4 (m.outs).length c_xm4), .int .i64 m.count] := hx21.bx hBxm_20 (by omega)
        have hFxm_21 : ∀ oo, w21.frozen? ⟨w6.heap.size, oo, none⟩ = false := fun oo => (hx21.frozen (by omega)).trans (hFxm_20 oo)
        have hBg_21 : Bx w21 (w8.heap.size) [(.slice A_g1 ((irRun b m).regs).length c_g1), .int .i64 ((irRun b m).pc), (.slice A_g2 ((irRun b m).mem).length c_g2), .int .i64 ((irRun b m).save), .bool (irRun b m).lets, .bool (irRun b m).waits, .int .i64 ((irRun b m).halt), (.slice A_g3 ((irRun b m).ins).length c_g3), (.slice A_g4 ((irRun b m).outs).length c_g4), .int .i64 ((irRun b m).count)] := hx21.bx hBg_20 (by omega)
        have hFg_21 : ∀ oo, w21.frozen? ⟨w8.heap.size, oo, none⟩ = false := fun oo => (hx21.frozen (by omega)).trans (hFg_20 oo)
        clear hBb_20 hFb_20 hBm_20 hFm_20 hBw_20 hFw_20 hBxb_20 hFxb_20 hBxm_20 hFxm_20 hBg_20 hFg_20
        have hBq_21 := hBA
        have hFq_21 := hFA
        clear hBA hFA hyA
        refine Plan.chain_step rfl (fun K hK => ?_)
        go_simp
        refine (to_MchMach m _ _ _ _ _ (hm1.ext (Ext.trans he21 (Ext.auto))) (hm2.ext (Ext.trans he21 (Ext.auto))) (hm3.ext (Ext.trans he21 (Ext.auto))) (hm4.ext (Ext.trans he21 (Ext.auto))) nm).mono ?_
        rintro e w22 ⟨r_zm1, r_zm2, r_zm3, r_zm4, F_zm1, F_zm2, F_zm3, F_zm4, rfl, ho_zm1, ho_zm2, ho_zm3, ho_zm4, hf_zm, hy⟩
        refine hK.out _ _ (Ext.trans (Ext.trans hx20 hx21) hy) ?_
        clear hK
        (try simp only [Act.put, List.setIfInBounds_toArray, List.set_cons_zero, List.set_cons_succ])
        have hx22 : Ext w21 w22 := Ext.trans (Ext.auto) hy
        have hs22 := hx22.size
        have he22 : Ext w w22 := he21.trans hx22
        have hBb_22 : Bx w22 (w.heap.size) [.int .i64 b.pc, .int .i64 b.len, (.slice Ab1 b.ops.length cb1), .int .i64 b.fin, .int .i64 b.x, .int .i64 b.y, .int .i64 b.k] := hx22.bx hBb_21 (by omega)
        have hFb_22 : ∀ oo, w22.frozen? ⟨w.heap.size, oo, none⟩ = false := fun oo => (hx22.frozen (by omega)).trans (hFb_21 oo)
        have hBm_22 : Bx w22 (w.heap.size + 1) [(.slice Am1 m.regs.length cm1), .int .i64 m.pc, (.slice Am2 m.mem.length cm2), .int .i64 m.save, .bool m.lets, .bool m.waits, .int .i64 m.halt, (.slice Am3 m.ins.length cm3), (.slice Am4 m.outs.length cm4), .int .i64 m.count] := hx22.bx hBm_21 (by omega)
        have hFm_22 : ∀ oo, w22.frozen? ⟨w.heap.size + 1, oo, none⟩ = false := fun oo => (hx22.frozen (by omega)).trans (hFm_21 oo)
        have hBw_22 : Bx w22 (q_w) [(.slice A_w1 ((irRun b m).regs).length c_w1), .int .i64 ((irRun b m).pc), (.slice A_w2 ((irRun b m).mem).length c_w2), .int .i64 ((irRun b m).save), .bool (irRun b m).lets, .bool (irRun b m).waits, .int .i64 ((irRun b m).halt), (.slice A_w3 ((irRun b m).ins).length c_w3), (.slice A_w4 ((irRun b m).outs).length c_w4), .int .i64 ((irRun b m).count)] := hx22.bx hBw_21 (by omega)
        have hFw_22 : ∀ oo, w22.frozen? ⟨q_w, oo, none⟩ = false := fun oo => (hx22.frozen (by omega)).trans (hFw_21 oo)
        have hBxb_22 : Bx w22 (w4.heap.size) [.int .i64 b.pc, .int .i64 b.len, (.slice A_xb1 (b.ops).length c_xb1), .int .i64 b.fin, .int .i64 b.x, .int .i64 b.y, .int .i64 b.k] := hx22.bx hBxb_21 (by omega)
        have hFxb_22 : ∀ oo, w22.frozen? ⟨w4.heap.size, oo, none⟩ = false := fun oo => (hx22.frozen (by omega)).trans (hFxb_21 oo)
        have hBxm_22 : Bx w22 (w6.heap.size) [(.slice A_xm1 (m.regs).length c_xm1), .int .i64 m.pc, (.slice A_xm2 (m.mem).length c_xm2), .int .i64 m.save, .bool m.lets, .bool m.waits, .int .i64 m.halt, (.slice A_xm3 (m.ins).length c_xm3), (.slice A_xm4 (m.outs).length c_xm4), .int .i64 m.count] := hx22.bx hBxm_21 (by omega)
        have hFxm_22 : ∀ oo, w22.frozen? ⟨w6.heap.size, oo, none⟩ = false := fun oo => (hx22.frozen (by omega)).trans (hFxm_21 oo)
        have hBg_22 : Bx w22 (w8.heap.size) [(.slice A_g1 ((irRun b m).regs).length c_g1), .int .i64 ((irRun b m).pc), (.slice A_g2 ((irRun b m).mem).length c_g2), .int .i64 ((irRun b m).save), .bool (irRun b m).lets, .bool (irRun b m).waits, .int .i64 ((irRun b m).halt), (.slice A_g3 ((irRun b m).ins).length c_g3), (.slice A_g4 ((irRun b m).outs).length c_g4), .int .i64 ((irRun b m).count)] := hx22.bx hBg_21 (by omega)
        have hFg_22 : ∀ oo, w22.frozen? ⟨w8.heap.size, oo, none⟩ = false := fun oo => (hx22.frozen (by omega)).trans (hFg_21 oo)
        have hBq_22 : Bx w22 (w20.heap.size) [.slice none 0 0, .int .i64 0, .slice none 0 0, .int .i64 0, .bool false, .bool false, .int .i64 0, .slice none 0 0, .slice none 0 0, .int .i64 0] := hx22.bx hBq_21 (by omega)
        have hFq_22 : ∀ oo, w22.frozen? ⟨w20.heap.size, oo, none⟩ = false := fun oo => (hx22.frozen (by omega)).trans (hFq_21 oo)
        clear hBb_21 hFb_21 hBm_21 hFm_21 hBw_21 hFw_21 hBxb_21 hFxb_21 hBxm_21 hFxm_21 hBg_21 hFg_21 hBq_21 hFq_21
        clear hy
        obtain ⟨A_zm1, c_zm1, rfl, -, -⟩ := ho_zm1.sl.form
        obtain ⟨A_zm2, c_zm2, rfl, -, -⟩ := ho_zm2.sl.form
        obtain ⟨A_zm3, c_zm3, rfl, -, -⟩ := ho_zm3.sl.form
        obtain ⟨A_zm4, c_zm4, rfl, -, -⟩ := ho_zm4.sl.form
        have fr_zm : Fr w21 w22 (F_zm1 ++ F_zm2 ++ F_zm3 ++ F_zm4) := hf_zm.mk1 (by first | exact Nat.le_refl _ | (simp; done)) (Nat.le_refl _)
        clear hf_zm
        refine Plan.chain_step rfl (fun K hK => ?_)
        go_simp
        refine (implIrRun_p b m _ _ _ _ _ _ ((OwnSl.up ho_zb1 (fr_zb.mk1 (Nat.le_refl _) (by omega)) (Ext.trans hx21 hx22)).old (fr_zb.mk1 (Nat.le_refl _) (by omega))) ((OwnSl.up ho_zm1 (fr_zm.inl.inl.inl.mk1 (Nat.le_refl _) (by omega)) (Ext.refl _)).old (fr_zm.inl.inl.inl.mk1 (Nat.le_refl _) (by omega))) ((OwnSl.up ho_zm2 (fr_zm.inl.inl.inr.mk1 (Nat.le_refl _) (by omega)) (Ext.refl _)).old (fr_zm.inl.inl.inr.mk1 (Nat.le_refl _) (by omega))) ((OwnSl.up ho_zm3 (fr_zm.inl.inr.mk1 (Nat.le_refl _) (by omega)) (Ext.refl _)).old (fr_zm.inl.inr.mk1 (Nat.le_refl _) (by omega))) ((OwnSl.up ho_zm4 (fr_zm.inr.mk1 (Nat.le_refl _) (by omega)) (Ext.refl _)).old (fr_zm.inr.mk1 (Nat.le_refl _) (by omega))) (by omega) (by omega) (by omega) (by omega) hkb (by omega)).mono ?_
        rintro e w23 ⟨r_h1, r_h2, r_h3, r_h4, F_h1, F_h2, F_h3, F_h4, rfl, ho_h1, ho_h2, ho_h3, ho_h4, hf_h, hy⟩
        refine hK.out _ _ (Ext.trans (Ext.trans (Ext.trans hx20 hx21) hx22) hy) ?_
        clear hK
        (try simp only [Act.put, List.setIfInBounds_toArray, List.set_cons_zero, List.set_cons_succ])
        have hx23 : Ext w22 w23 := Ext.trans (Ext.auto) hy
        have hs23 := hx23.size
        have he23 : Ext w w23 := he22.trans hx23
        have hBb_23 : Bx w23 (w.heap.size) [.int .i64 b.pc, .int .i64 b.len, (.slice Ab1 b.ops.length cb1), .int .i64 b.fin, .int .i64 b.x, .int .i64 b.y, .int .i64 b.k] := hx23.bx hBb_22 (by omega)
        have hFb_23 : ∀ oo, w23.frozen? ⟨w.heap.size, oo, none⟩ = false := fun oo => (hx23.frozen (by omega)).trans (hFb_22 oo)
        have hBm_23 : Bx w23 (w.heap.size + 1) [(.slice Am1 m.regs.length cm1), .int .i64 m.pc, (.slice Am2 m.mem.length cm2), .int .i64 m.save, .bool m.lets, .bool m.waits, .int .i64 m.halt, (.slice Am3 m.ins.length cm3), (.slice Am4 m.outs.length cm4), .int .i64 m.count] := hx23.bx hBm_22 (by omega)
        have hFm_23 : ∀ oo, w23.frozen? ⟨w.heap.size + 1, oo, none⟩ = false := fun oo => (hx23.frozen (by omega)).trans (hFm_22 oo)
        have hBw_23 : Bx w23 (q_w) [(.slice A_w1 ((irRun b m).regs).length c_w1), .int .i64 ((irRun b m).pc), (.slice A_w2 ((irRun b m).mem).length c_w2), .int .i64 ((irRun b m).save), .bool (irRun b m).lets, .bool (irRun b m).waits, .int .i64 ((irRun b m).halt), (.slice A_w3 ((irRun b m).ins).length c_w3), (.slice A_w4 ((irRun b m).outs).length c_w4), .int .i64 ((irRun b m).count)] := hx23.bx hBw_22 (by omega)
        have hFw_23 : ∀ oo, w23.frozen? ⟨q_w, oo, none⟩ = false := fun oo => (hx23.frozen (by omega)).trans (hFw_22 oo)
        have hBxb_23 : Bx w23 (w4.heap.size) [.int .i64 b.pc, .int .i64 b.len, (.slice A_xb1 (b.ops).length c_xb1), .int .i64 b.fin, .int .i64 b.x, .int .i64 b.y, .int .i64 b.k] := hx23.bx hBxb_22 (by omega)
        have hFxb_23 : ∀ oo, w23.frozen? ⟨w4.heap.size, oo, none⟩ = false := fun oo => (hx23.frozen (by omega)).trans (hFxb_22 oo)
        have hBxm_23 : Bx w23 (w6.heap.size) [(.slice A_xm1 (m.regs).length c_xm1), .int .i64 m.pc, (.slice A_xm2 (m.mem).length c_xm2), .int .i64 m.save, .bool m.lets, .bool m.waits, .int .i64 m.halt, (.slice A_xm3 (m.ins).length c_xm3), (.slice A_xm4 (m.outs).length c_xm4), .int .i64 m.count] := hx23.bx hBxm_22 (by omega)
        have hFxm_23 : ∀ oo, w23.frozen? ⟨w6.heap.size, oo, none⟩ = false := fun oo => (hx23.frozen (by omega)).trans (hFxm_22 oo)
        have hBg_23 : Bx w23 (w8.heap.size) [(.slice A_g1 ((irRun b m).regs).length c_g1), .int .i64 ((irRun b m).pc), (.slice A_g2 ((irRun b m).mem).length c_g2), .int .i64 ((irRun b m).save), .bool (irRun b m).lets, .bool (irRun b m).waits, .int .i64 ((irRun b m).halt), (.slice A_g3 ((irRun b m).ins).length c_g3), (.slice A_g4 ((irRun b m).outs).length c_g4), .int .i64 ((irRun b m).count)] := hx23.bx hBg_22 (by omega)
        have hFg_23 : ∀ oo, w23.frozen? ⟨w8.heap.size, oo, none⟩ = false := fun oo => (hx23.frozen (by omega)).trans (hFg_22 oo)
        have hBq_23 : Bx w23 (w20.heap.size) [.slice none 0 0, .int .i64 0, .slice none 0 0, .int .i64 0, .bool false, .bool false, .int .i64 0, .slice none 0 0, .slice none 0 0, .int .i64 0] := hx23.bx hBq_22 (by omega)
        have hFq_23 : ∀ oo, w23.frozen? ⟨w20.heap.size, oo, none⟩ = false := fun oo => (hx23.frozen (by omega)).trans (hFq_22 oo)
        clear hBb_22 hFb_22 hBm_22 hFm_22 hBw_22 hFw_22 hBxb_22 hFxb_22 hBxm_22 hFxm_22 hBg_22 hFg_22 hBq_22 hFq_22
        clear hy
        obtain ⟨A_h1, c_h1, rfl, -, -⟩ := ho_h1.sl.form
        obtain ⟨A_h2, c_h2, rfl, -, -⟩ := ho_h2.sl.form
        obtain ⟨A_h3, c_h3, rfl, -, -⟩ := ho_h3.sl.form
        obtain ⟨A_h4, c_h4, rfl, -, -⟩ := ho_h4.sl.form
        have fr_h : Fr w22 w23 (F_h1 ++ F_h2 ++ F_h3 ++ F_h4) := hf_h.mk1 (by first | exact Nat.le_refl _ | (simp; done)) (Nat.le_refl _)
        clear hf_h
        iterate 3 ((refine Plan.float_step (v := ?_) rfl (by rfl) (fun _ _ _ h => h) (fun w' hSw => ?_) ?_; rotate_left; · (go_simp; try with_reducible rfl)); (try simp only [Act.put, List.setIfInBounds_toArray, List.set_cons_zero, List.set_cons_succ]))
        have yq : w20.heap.size < w23.heap.size := by omega
        have xq0 := hBq_23 0 _ rfl
        have xq1 := hBq_23 1 _ rfl
        have xq2 := hBq_23 2 _ rfl
        have xq3 := hBq_23 3 _ rfl
        have xq4 := hBq_23 4 _ rfl
        have xq5 := hBq_23 5 _ rfl
        have xq6 := hBq_23 6 _ rfl
        have xq7 := hBq_23 7 _ rfl
        have xq8 := hBq_23 8 _ rfl
        have xq9 := hBq_23 9 _ rfl
        have fq := hFq_23
        refine Plan.chain_step rfl (fun K hK => ?_)
        go_simp
        have hcl : Ext w19 w23 := (Ext.trans (Ext.trans (Ext.trans hx20 hx21) hx22) hx23)
        refine hK.out _ _ (Ext.hold hcl) ?_
        clear hK
        (try simp only [Act.put, List.setIfInBounds_toArray, List.set_cons_zero, List.set_cons_succ])
        refine Plan.tail_step ?_
        simp only [List.drop_succ_cons, List.drop_zero]
        clear hS
        go_wp2_with fail
        go_meet
        exact ⟨w20.heap.size, _, _, _, _, _, _, _, _, F_h1, F_h2, F_h3, F_h4, rfl, rfl, Ext.hold hcl, (by omega), (by first | omega | (simp; omega)), hBq_23.store10 rfl _ _ _ _ _ _ _ _ _ _, fz_hold hFq_23, OwnSl.stay (OwnSl.up ho_h1 (fr_h.inl.inl.inl.mk1 (Nat.le_refl _) (by omega)) (Ext.refl _)) (fun z hb => by
            have q := fr_h.inl.inl.inl.2 z hb; have q1 := q.1; have q2 := q.2
            repeat (first | rw [heap_set _ _ _ _ (by show _ ≠ z; omega)] | rw [heap_set _ _ _ _ (by simp; omega)])), OwnSl.stay (OwnSl.up ho_h2 (fr_h.inl.inl.inr.mk1 (Nat.le_refl _) (by omega)) (Ext.refl _)) (fun z hb => by
            have q := fr_h.inl.inl.inr.2 z hb; have q1 := q.1; have q2 := q.2
            repeat (first | rw [heap_set _ _ _ _ (by show _ ≠ z; omega)] | rw [heap_set _ _ _ _ (by simp; omega)])), OwnSl.stay (OwnSl.up ho_h3 (fr_h.inl.inr.mk1 (Nat.le_refl _) (by omega)) (Ext.refl _)) (fun z hb => by
            have q := fr_h.inl.inr.2 z hb; have q1 := q.1; have q2 := q.2
            repeat (first | rw [heap_set _ _ _ _ (by show _ ≠ z; omega)] | rw [heap_set _ _ _ _ (by simp; omega)])), OwnSl.stay (OwnSl.up ho_h4 (fr_h.inr.mk1 (Nat.le_refl _) (by omega)) (Ext.refl _)) (fun z hb => by
            have q := fr_h.inr.2 z hb; have q1 := q.1; have q2 := q.2
            repeat (first | rw [heap_set _ _ _ _ (by show _ ≠ z; omega)] | rw [heap_set _ _ _ _ (by simp; omega)])), fr_h.mk1 (by first | omega | (simp; done) | (simp; omega)) (by first | omega | (simp; done) | (simp; omega))⟩
    · 
      refine Plan.chain_step rfl (fun K hK => ?_)
      go_simp
      refine hK.out _ _ (Ext.trans (Ext.refl _) (show Ext w19 (w19.alloc (.cells #[.slice none 0 0, .int .i64 0, .slice none 0 0, .int .i64 0, .bool false, .bool false, .int .i64 0, .slice none 0 0, .slice none 0 0, .int .i64 0] 46)).drew from Ext.auto)) ?_
      clear hK
      (try simp only [Act.put, List.setIfInBounds_toArray, List.set_cons_zero, List.set_cons_succ])
      have hyA : Ext w19 (w19.alloc (.cells #[.slice none 0 0, .int .i64 0, .slice none 0 0, .int .i64 0, .bool false, .bool false, .int .i64 0, .slice none 0 0, .slice none 0 0, .int .i64 0] 46)).drew := Ext.auto
      have hsA : w19.heap.size < (w19.alloc (.cells #[.slice none 0 0, .int .i64 0, .slice none 0 0, .int .i64 0, .bool false, .bool false, .int .i64 0, .slice none 0 0, .slice none 0 0, .int .i64 0] 46)).drew.heap.size := by simp
      have hBA : Bx (w19.alloc (.cells #[.slice none 0 0, .int .i64 0, .slice none 0 0, .int .i64 0, .bool false, .bool false, .int .i64 0, .slice none 0 0, .slice none 0 0, .int .i64 0] 46)).drew w19.heap.size [.slice none 0 0, .int .i64 0, .slice none 0 0, .int .i64 0, .bool false, .bool false, .int .i64 0, .slice none 0 0, .slice none 0 0, .int .i64 0] := Bx.new w19 #[.slice none 0 0, .int .i64 0, .slice none 0 0, .int .i64 0, .bool false, .bool false, .int .i64 0, .slice none 0 0, .slice none 0 0, .int .i64 0] 46
      have hFA : ∀ oo, (w19.alloc (.cells #[.slice none 0 0, .int .i64 0, .slice none 0 0, .int .i64 0, .bool false, .bool false, .int .i64 0, .slice none 0 0, .slice none 0 0, .int .i64 0] 46)).drew.frozen? ⟨w19.heap.size, oo, none⟩ = false := fz_new w19 #[.slice none 0 0, .int .i64 0, .slice none 0 0, .int .i64 0, .bool false, .bool false, .int .i64 0, .slice none 0 0, .slice none 0 0, .int .i64 0] 46 rfl
      generalize (w19.alloc (.cells #[.slice none 0 0, .int .i64 0, .slice none 0 0, .int .i64 0, .bool false, .bool false, .int .i64 0, .slice none 0 0, .slice none 0 0, .int .i64 0] 46)).drew = w20 at *
      have hx20 : Ext w19 w20 := Ext.trans (Ext.auto) hyA
      have hs20 := hx20.size
      have he20 : Ext w w20 := he19.trans hx20
      have hBb_20 : Bx w20 (w.heap.size) [.int .i64 b.pc, .int .i64 b.len, (.slice Ab1 b.ops.length cb1), .int .i64 b.fin, .int .i64 b.x, .int .i64 b.y, .int .i64 b.k] := hx20.bx hBb_19 (by omega)
      have hFb_20 : ∀ oo, w20.frozen? ⟨w.heap.size, oo, none⟩ = false := fun oo => (hx20.frozen (by omega)).trans (hFb_19 oo)
      have hBm_20 : Bx w20 (w.heap.size + 1) [(.slice Am1 m.regs.length cm1), .int .i64 m.pc, (.slice Am2 m.mem.length cm2), .int .i64 m.save, .bool m.lets, .bool m.waits, .int .i64 m.halt, (.slice Am3 m.ins.length cm3), (.slice Am4 m.outs.length cm4), .int .i64 m.count] := hx20.bx hBm_19 (by omega)
      have hFm_20 : ∀ oo, w20.frozen? ⟨w.heap.size + 1, oo, none⟩ = false := fun oo => (hx20.frozen (by omega)).trans (hFm_19 oo)
      have hBw_20 : Bx w20 (q_w) [(.slice A_w1 ((irRun b m).regs).length c_w1), .int .i64 ((irRun b m).pc), (.slice A_w2 ((irRun b m).mem).length c_w2), .int .i64 ((irRun b m).save), .bool (irRun b m).lets, .bool (irRun b m).waits, .int .i64 ((irRun b m).halt), (.slice A_w3 ((irRun b m).ins).length c_w3), (.slice A_w4 ((irRun b m).outs).length c_w4), .int .i64 ((irRun b m).count)] := hx20.bx hBw_19 (by omega)
      have hFw_20 : ∀ oo, w20.frozen? ⟨q_w, oo, none⟩ = false := fun oo => (hx20.frozen (by omega)).trans (hFw_19 oo)
      have hBxb_20 : Bx w20 (w4.heap.size) [.int .i64 b.pc, .int .i64 b.len, (.slice A_xb1 (b.ops).length c_xb1), .int .i64 b.fin, .int .i64 b.x, .int .i64 b.y, .int .i64 b.k] := hx20.bx hBxb_19 (by omega)
      have hFxb_20 : ∀ oo, w20.frozen? ⟨w4.heap.size, oo, none⟩ = false := fun oo => (hx20.frozen (by omega)).trans (hFxb_19 oo)
      have hBxm_20 : Bx w20 (w6.heap.size) [(.slice A_xm1 (m.regs).length c_xm1), .int .i64 m.pc, (.slice A_xm2 (m.mem).length c_xm2), .int .i64 m.save, .bool m.lets, .bool m.waits, .int .i64 m.halt, (.slice A_xm3 (m.ins).length c_xm3), (.slice A_xm4 (m.outs).length c_xm4), .int .i64 m.count] := hx20.bx hBxm_19 (by omega)
      have hFxm_20 : ∀ oo, w20.frozen? ⟨w6.heap.size, oo, none⟩ = false := fun oo => (hx20.frozen (by omega)).trans (hFxm_19 oo)
      have hBg_20 : Bx w20 (w8.heap.size) [(.slice A_g1 ((irRun b m).regs).length c_g1), .int .i64 ((irRun b m).pc), (.slice A_g2 ((irRun b m).mem).length c_g2), .int .i64 ((irRun b m).save), .bool (irRun b m).lets, .bool (irRun b m).waits, .int .i64 ((irRun b m).halt), (.slice A_g3 ((irRun b m).ins).length c_g3), (.slice A_g4 ((irRun b m).outs).length c_g4), .int .i64 ((irRun b m).count)] := hx20.bx hBg_19 (by omega)
      have hFg_20 : ∀ oo, w20.frozen? ⟨w8.heap.size, oo, none⟩ = false := fun oo => (hx20.frozen (by omega)).trans (hFg_19 oo)
      clear hBb_19 hFb_19 hBm_19 hFm_19 hBw_19 hFw_19 hBxb_19 hFxb_19 hBxm_19 hFxm_19 hBg_19 hFg_19
      have hBq_20 := hBA
      have hFq_20 := hFA
      clear hBA hFA hyA
      refine Plan.chain_step rfl (fun K hK => ?_)
      go_simp
      refine (to_IrBlock b _ _ (hb1.ext (Ext.trans he20 (Ext.auto))) nb).mono ?_
      rintro e w21 ⟨r_zb1, F_zb1, rfl, ho_zb1, hf_zb, hy⟩
      refine hK.out _ _ (Ext.trans hx20 hy) ?_
      clear hK
      (try simp only [Act.put, List.setIfInBounds_toArray, List.set_cons_zero, List.set_cons_succ])
      have hx21 : Ext w20 w21 := Ext.trans (Ext.auto) hy
      have hs21 := hx21.size
      have he21 : Ext w w21 := he20.trans hx21
      have hBb_21 : Bx w21 (w.heap.size) [.int .i64 b.pc, .int .i64 b.len, (.slice Ab1 b.ops.length cb1), .int .i64 b.fin, .int .i64 b.x, .int .i64 b.y, .int .i64 b.k] := hx21.bx hBb_20 (by omega)
      have hFb_21 : ∀ oo, w21.frozen? ⟨w.heap.size, oo, none⟩ = false := fun oo => (hx21.frozen (by omega)).trans (hFb_20 oo)
      have hBm_21 : Bx w21 (w.heap.size + 1) [(.slice Am1 m.regs.length cm1), .int .i64 m.pc, (.slice Am2 m.mem.length cm2), .int .i64 m.save, .bool m.lets, .bool m.waits, .int .i64 m.halt, (.slice Am3 m.ins.length cm3), (.slice Am4 m.outs.length cm4), .int .i64 m.count] := hx21.bx hBm_20 (by omega)
      have hFm_21 : ∀ oo, w21.frozen? ⟨w.heap.size + 1, oo, none⟩ = false := fun oo => (hx21.frozen (by omega)).trans (hFm_20 oo)
      have hBw_21 : Bx w21 (q_w) [(.slice A_w1 ((irRun b m).regs).length c_w1), .int .i64 ((irRun b m).pc), (.slice A_w2 ((irRun b m).mem).length c_w2), .int .i64 ((irRun b m).save), .bool (irRun b m).lets, .bool (irRun b m).waits, .int .i64 ((irRun b m).halt), (.slice A_w3 ((irRun b m).ins).length c_w3), (.slice A_w4 ((irRun b m).outs).length c_w4), .int .i64 ((irRun b m).count)] := hx21.bx hBw_20 (by omega)
      have hFw_21 : ∀ oo, w21.frozen? ⟨q_w, oo, none⟩ = false := fun oo => (hx21.frozen (by omega)).trans (hFw_20 oo)
      have hBxb_21 : Bx w21 (w4.heap.size) [.int .i64 b.pc, .int .i64 b.len, (.slice A_xb1 (b.ops).length c_xb1), .int .i64 b.fin, .int .i64 b.x, .int .i64 b.y, .int .i64 b.k] := hx21.bx hBxb_20 (by omega)
      have hFxb_21 : ∀ oo, w21.frozen? ⟨w4.heap.size, oo, none⟩ = false := fun oo => (hx21.frozen (by omega)).trans (hFxb_20 oo)
      have hBxm_21 : Bx w21 (w6.heap.size) [(.slice A_xm1 (m.regs).length c_xm1), .int .i64 m.pc, (.slice A_xm2 (m.mem).length c_xm2), .int .i64 m.save, .bool m.lets, .bool m.waits, .int .i64 m.halt, (.slice A_xm3 (m.ins).length c_xm3), (.slice A_xm4 (m.outs).length c_xm4), .int .i64 m.count] := hx21.bx hBxm_20 (by omega)
      have hFxm_21 : ∀ oo, w21.frozen? ⟨w6.heap.size, oo, none⟩ = false := fun oo => (hx21.frozen (by omega)).trans (hFxm_20 oo)
      have hBg_21 : Bx w21 (w8.heap.size) [(.slice A_g1 ((irRun b m).regs).length c_g1), .int .i64 ((irRun b m).pc), (.slice A_g2 ((irRun b m).mem).length c_g2), .int .i64 ((irRun b m).save), .bool (irRun b m).lets, .bool (irRun b m).waits, .int .i64 ((irRun b m).halt), (.slice A_g3 ((irRun b m).ins).length c_g3), (.slice A_g4 ((irRun b m).outs).length c_g4), .int .i64 ((irRun b m).count)] := hx21.bx hBg_20 (by omega)
      have hFg_21 : ∀ oo, w21.frozen? ⟨w8.heap.size, oo, none⟩ = false := fun oo => (hx21.frozen (by omega)).trans (hFg_20 oo)
      have hBq_21 : Bx w21 (w19.heap.size) [.slice none 0 0, .int .i64 0, .slice none 0 0, .int .i64 0, .bool false, .bool false, .int .i64 0, .slice none 0 0, .slice none 0 0, .int .i64 0] := hx21.bx hBq_20 (by omega)
      have hFq_21 : ∀ oo, w21.frozen? ⟨w19.heap.size, oo, none⟩ = false := fun oo => (hx21.frozen (by omega)).trans (hFq_20 oo)
      clear hBb_20 hFb_20 hBm_20 hFm_20 hBw_20 hFw_20 hBxb_20 hFxb_20 hBxm_20 hFxm_20 hBg_20 hFg_20 hBq_20 hFq_20
      clear hy
      obtain ⟨A_zb1, c_zb1, rfl, -, -⟩ := ho_zb1.sl.form
      have fr_zb : Fr w20 w21 (F_zb1) := hf_zb.mk1 (by first | exact Nat.le_refl _ | (simp; done)) (Nat.le_refl _)
      clear hf_zb
      refine Plan.chain_step rfl (fun K hK => ?_)
      go_simp
      refine (to_MchMach m _ _ _ _ _ (hm1.ext (Ext.trans he21 (Ext.auto))) (hm2.ext (Ext.trans he21 (Ext.auto))) (hm3.ext (Ext.trans he21 (Ext.auto))) (hm4.ext (Ext.trans he21 (Ext.auto))) nm).mono ?_
      rintro e w22 ⟨r_zm1, r_zm2, r_zm3, r_zm4, F_zm1, F_zm2, F_zm3, F_zm4, rfl, ho_zm1, ho_zm2, ho_zm3, ho_zm4, hf_zm, hy⟩
      refine hK.out _ _ (Ext.trans (Ext.trans hx20 hx21) hy) ?_
      clear hK
      (try simp only [Act.put, List.setIfInBounds_toArray, List.set_cons_zero, List.set_cons_succ])
      have hx22 : Ext w21 w22 := Ext.trans (Ext.auto) hy
      have hs22 := hx22.size
      have he22 : Ext w w22 := he21.trans hx22
      have hBb_22 : Bx w22 (w.heap.size) [.int .i64 b.pc, .int .i64 b.len, (.slice Ab1 b.ops.length cb1), .int .i64 b.fin, .int .i64 b.x, .int .i64 b.y, .int .i64 b.k] := hx22.bx hBb_21 (by omega)
      have hFb_22 : ∀ oo, w22.frozen? ⟨w.heap.size, oo, none⟩ = false := fun oo => (hx22.frozen (by omega)).trans (hFb_21 oo)
      have hBm_22 : Bx w22 (w.heap.size + 1) [(.slice Am1 m.regs.length cm1), .int .i64 m.pc, (.slice Am2 m.mem.length cm2), .int .i64 m.save, .bool m.lets, .bool m.waits, .int .i64 m.halt, (.slice Am3 m.ins.length cm3), (.slice Am4 m.outs.length cm4), .int .i64 m.count] := hx22.bx hBm_21 (by omega)
      have hFm_22 : ∀ oo, w22.frozen? ⟨w.heap.size + 1, oo, none⟩ = false := fun oo => (hx22.frozen (by omega)).trans (hFm_21 oo)
      have hBw_22 : Bx w22 (q_w) [(.slice A_w1 ((irRun b m).regs).length c_w1), .int .i64 ((irRun b m).pc), (.slice A_w2 ((irRun b m).mem).length c_w2), .int .i64 ((irRun b m).save), .bool (irRun b m).lets, .bool (irRun b m).waits, .int .i64 ((irRun b m).halt), (.slice A_w3 ((irRun b m).ins).length c_w3), (.slice A_w4 ((irRun b m).outs).length c_w4), .int .i64 ((irRun b m).count)] := hx22.bx hBw_21 (by omega)
      have hFw_22 : ∀ oo, w22.frozen? ⟨q_w, oo, none⟩ = false := fun oo => (hx22.frozen (by omega)).trans (hFw_21 oo)
      have hBxb_22 : Bx w22 (w4.heap.size) [.int .i64 b.pc, .int .i64 b.len, (.slice A_xb1 (b.ops).length c_xb1), .int .i64 b.fin, .int .i64 b.x, .int .i64 b.y, .int .i64 b.k] := hx22.bx hBxb_21 (by omega)
      have hFxb_22 : ∀ oo, w22.frozen? ⟨w4.heap.size, oo, none⟩ = false := fun oo => (hx22.frozen (by omega)).trans (hFxb_21 oo)
      have hBxm_22 : Bx w22 (w6.heap.size) [(.slice A_xm1 (m.regs).length c_xm1), .int .i64 m.pc, (.slice A_xm2 (m.mem).length c_xm2), .int .i64 m.save, .bool m.lets, .bool m.waits, .int .i64 m.halt, (.slice A_xm3 (m.ins).length c_xm3), (.slice A_xm4 (m.outs).length c_xm4), .int .i64 m.count] := hx22.bx hBxm_21 (by omega)
      have hFxm_22 : ∀ oo, w22.frozen? ⟨w6.heap.size, oo, none⟩ = false := fun oo => (hx22.frozen (by omega)).trans (hFxm_21 oo)
      have hBg_22 : Bx w22 (w8.heap.size) [(.slice A_g1 ((irRun b m).regs).length c_g1), .int .i64 ((irRun b m).pc), (.slice A_g2 ((irRun b m).mem).length c_g2), .int .i64 ((irRun b m).save), .bool (irRun b m).lets, .bool (irRun b m).waits, .int .i64 ((irRun b m).halt), (.slice A_g3 ((irRun b m).ins).length c_g3), (.slice A_g4 ((irRun b m).outs).length c_g4), .int .i64 ((irRun b m).count)] := hx22.bx hBg_21 (by omega)
      have hFg_22 : ∀ oo, w22.frozen? ⟨w8.heap.size, oo, none⟩ = false := fun oo => (hx22.frozen (by omega)).trans (hFg_21 oo)
      have hBq_22 : Bx w22 (w19.heap.size) [.slice none 0 0, .int .i64 0, .slice none 0 0, .int .i64 0, .bool false, .bool false, .int .i64 0, .slice none 0 0, .slice none 0 0, .int .i64 0] := hx22.bx hBq_21 (by omega)
      have hFq_22 : ∀ oo, w22.frozen? ⟨w19.heap.size, oo, none⟩ = false := fun oo => (hx22.frozen (by omega)).trans (hFq_21 oo)
      clear hBb_21 hFb_21 hBm_21 hFm_21 hBw_21 hFw_21 hBxb_21 hFxb_21 hBxm_21 hFxm_21 hBg_21 hFg_21 hBq_21 hFq_21
      clear hy
      obtain ⟨A_zm1, c_zm1, rfl, -, -⟩ := ho_zm1.sl.form
      obtain ⟨A_zm2, c_zm2, rfl, -, -⟩ := ho_zm2.sl.form
      obtain ⟨A_zm3, c_zm3, rfl, -, -⟩ := ho_zm3.sl.form
      obtain ⟨A_zm4, c_zm4, rfl, -, -⟩ := ho_zm4.sl.form
      have fr_zm : Fr w21 w22 (F_zm1 ++ F_zm2 ++ F_zm3 ++ F_zm4) := hf_zm.mk1 (by first | exact Nat.le_refl _ | (simp; done)) (Nat.le_refl _)
      clear hf_zm
      refine Plan.chain_step rfl (fun K hK => ?_)
      go_simp
      refine (implIrRun_p b m _ _ _ _ _ _ ((OwnSl.up ho_zb1 (fr_zb.mk1 (Nat.le_refl _) (by omega)) hx22).old (fr_zb.mk1 (Nat.le_refl _) (by omega))) ((OwnSl.up ho_zm1 (fr_zm.inl.inl.inl.mk1 (Nat.le_refl _) (by omega)) (Ext.refl _)).old (fr_zm.inl.inl.inl.mk1 (Nat.le_refl _) (by omega))) ((OwnSl.up ho_zm2 (fr_zm.inl.inl.inr.mk1 (Nat.le_refl _) (by omega)) (Ext.refl _)).old (fr_zm.inl.inl.inr.mk1 (Nat.le_refl _) (by omega))) ((OwnSl.up ho_zm3 (fr_zm.inl.inr.mk1 (Nat.le_refl _) (by omega)) (Ext.refl _)).old (fr_zm.inl.inr.mk1 (Nat.le_refl _) (by omega))) ((OwnSl.up ho_zm4 (fr_zm.inr.mk1 (Nat.le_refl _) (by omega)) (Ext.refl _)).old (fr_zm.inr.mk1 (Nat.le_refl _) (by omega))) (by omega) (by omega) (by omega) (by omega) hkb (by omega)).mono ?_
      rintro e w23 ⟨r_h1, r_h2, r_h3, r_h4, F_h1, F_h2, F_h3, F_h4, rfl, ho_h1, ho_h2, ho_h3, ho_h4, hf_h, hy⟩
      refine hK.out _ _ (Ext.trans (Ext.trans (Ext.trans hx20 hx21) hx22) hy) ?_
      clear hK
      (try simp only [Act.put, List.setIfInBounds_toArray, List.set_cons_zero, List.set_cons_succ])
      have hx23 : Ext w22 w23 := Ext.trans (Ext.auto) hy
      have hs23 := hx23.size
      have he23 : Ext w w23 := he22.trans hx23
      have hBb_23 : Bx w23 (w.heap.size) [.int .i64 b.pc, .int .i64 b.len, (.slice Ab1 b.ops.length cb1), .int .i64 b.fin, .int .i64 b.x, .int .i64 b.y, .int .i64 b.k] := hx23.bx hBb_22 (by omega)
      have hFb_23 : ∀ oo, w23.frozen? ⟨w.heap.size, oo, none⟩ = false := fun oo => (hx23.frozen (by omega)).trans (hFb_22 oo)
      have hBm_23 : Bx w23 (w.heap.size + 1) [(.slice Am1 m.regs.length cm1), .int .i64 m.pc, (.slice Am2 m.mem.length cm2), .int .i64 m.save, .bool m.lets, .bool m.waits, .int .i64 m.halt, (.slice Am3 m.ins.length cm3), (.slice Am4 m.outs.length cm4), .int .i64 m.count] := hx23.bx hBm_22 (by omega)
      have hFm_23 : ∀ oo, w23.frozen? ⟨w.heap.size + 1, oo, none⟩ = false := fun oo => (hx23.frozen (by omega)).trans (hFm_22 oo)
      have hBw_23 : Bx w23 (q_w) [(.slice A_w1 ((irRun b m).regs).length c_w1), .int .i64 ((irRun b m).pc), (.slice A_w2 ((irRun b m).mem).length c_w2), .int .i64 ((irRun b m).save), .bool (irRun b m).lets, .bool (irRun b m).waits, .int .i64 ((irRun b m).halt), (.slice A_w3 ((irRun b m).ins).length c_w3), (.slice A_w4 ((irRun b m).outs).length c_w4), .int .i64 ((irRun b m).count)] := hx23.bx hBw_22 (by omega)
      have hFw_23 : ∀ oo, w23.frozen? ⟨q_w, oo, none⟩ = false := fun oo => (hx23.frozen (by omega)).trans (hFw_22 oo)
      have hBxb_23 : Bx w23 (w4.heap.size) [.int .i64 b.pc, .int .i64 b.len, (.slice A_xb1 (b.ops).length c_xb1), .int .i64 b.fin, .int .i64 b.x, .int .i64 b.y, .int .i64 b.k] := hx23.bx hBxb_22 (by omega)
      have hFxb_23 : ∀ oo, w23.frozen? ⟨w4.heap.size, oo, none⟩ = false := fun oo => (hx23.frozen (by omega)).trans (hFxb_22 oo)
      have hBxm_23 : Bx w23 (w6.heap.size) [(.slice A_xm1 (m.regs).length c_xm1), .int .i64 m.pc, (.slice A_xm2 (m.mem).length c_xm2), .int .i64 m.save, .bool m.lets, .bool m.waits, .int .i64 m.halt, (.slice A_xm3 (m.ins).length c_xm3), (.slice A_xm4 (m.outs).length c_xm4), .int .i64 m.count] := hx23.bx hBxm_22 (by omega)
      have hFxm_23 : ∀ oo, w23.frozen? ⟨w6.heap.size, oo, none⟩ = false := fun oo => (hx23.frozen (by omega)).trans (hFxm_22 oo)
      have hBg_23 : Bx w23 (w8.heap.size) [(.slice A_g1 ((irRun b m).regs).length c_g1), .int .i64 ((irRun b m).pc), (.slice A_g2 ((irRun b m).mem).length c_g2), .int .i64 ((irRun b m).save), .bool (irRun b m).lets, .bool (irRun b m).waits, .int .i64 ((irRun b m).halt), (.slice A_g3 ((irRun b m).ins).length c_g3), (.slice A_g4 ((irRun b m).outs).length c_g4), .int .i64 ((irRun b m).count)] := hx23.bx hBg_22 (by omega)
      have hFg_23 : ∀ oo, w23.frozen? ⟨w8.heap.size, oo, none⟩ = false := fun oo => (hx23.frozen (by omega)).trans (hFg_22 oo)
      have hBq_23 : Bx w23 (w19.heap.size) [.slice none 0 0, .int .i64 0, .slice none 0 0, .int .i64 0, .bool false, .bool false, .int .i64 0, .slice none 0 0, .slice none 0 0, .int .i64 0] := hx23.bx hBq_22 (by omega)
      have hFq_23 : ∀ oo, w23.frozen? ⟨w19.heap.size, oo, none⟩ = false := fun oo => (hx23.frozen (by omega)).trans (hFq_22 oo)
      clear hBb_22 hFb_22 hBm_22 hFm_22 hBw_22 hFw_22 hBxb_22 hFxb_22 hBxm_22 hFxm_22 hBg_22 hFg_22 hBq_22 hFq_22
      clear hy
      obtain ⟨A_h1, c_h1, rfl, -, -⟩ := ho_h1.sl.form
      obtain ⟨A_h2, c_h2, rfl, -, -⟩ := ho_h2.sl.form
      obtain ⟨A_h3, c_h3, rfl, -, -⟩ := ho_h3.sl.form
      obtain ⟨A_h4, c_h4, rfl, -, -⟩ := ho_h4.sl.form
      have fr_h : Fr w22 w23 (F_h1 ++ F_h2 ++ F_h3 ++ F_h4) := hf_h.mk1 (by first | exact Nat.le_refl _ | (simp; done)) (Nat.le_refl _)
      clear hf_h
      iterate 3 ((refine Plan.float_step (v := ?_) rfl (by rfl) (fun _ _ _ h => h) (fun w' hSw => ?_) ?_; rotate_left; · (go_simp; try with_reducible rfl)); (try simp only [Act.put, List.setIfInBounds_toArray, List.set_cons_zero, List.set_cons_succ]))
      have yq : w19.heap.size < w23.heap.size := by omega
      have xq0 := hBq_23 0 _ rfl
      have xq1 := hBq_23 1 _ rfl
      have xq2 := hBq_23 2 _ rfl
      have xq3 := hBq_23 3 _ rfl
      have xq4 := hBq_23 4 _ rfl
      have xq5 := hBq_23 5 _ rfl
      have xq6 := hBq_23 6 _ rfl
      have xq7 := hBq_23 7 _ rfl
      have xq8 := hBq_23 8 _ rfl
      have xq9 := hBq_23 9 _ rfl
      have fq := hFq_23
      refine Plan.chain_step rfl (fun K hK => ?_)
      go_simp
      have hcl : Ext w19 w23 := (Ext.trans (Ext.trans (Ext.trans hx20 hx21) hx22) hx23)
      refine hK.out _ _ (Ext.hold hcl) ?_
      clear hK
      (try simp only [Act.put, List.setIfInBounds_toArray, List.set_cons_zero, List.set_cons_succ])
      refine Plan.tail_step ?_
      simp only [List.drop_succ_cons, List.drop_zero]
      clear hS
      go_wp2_with fail
      go_meet
      exact ⟨w19.heap.size, _, _, _, _, _, _, _, _, F_h1, F_h2, F_h3, F_h4, rfl, rfl, Ext.hold hcl, (by omega), (by first | omega | (simp; omega)), hBq_23.store10 rfl _ _ _ _ _ _ _ _ _ _, fz_hold hFq_23, OwnSl.stay (OwnSl.up ho_h1 (fr_h.inl.inl.inl.mk1 (Nat.le_refl _) (by omega)) (Ext.refl _)) (fun z hb => by
          have q := fr_h.inl.inl.inl.2 z hb; have q1 := q.1; have q2 := q.2
          repeat (first | rw [heap_set _ _ _ _ (by show _ ≠ z; omega)] | rw [heap_set _ _ _ _ (by simp; omega)])), OwnSl.stay (OwnSl.up ho_h2 (fr_h.inl.inl.inr.mk1 (Nat.le_refl _) (by omega)) (Ext.refl _)) (fun z hb => by
          have q := fr_h.inl.inl.inr.2 z hb; have q1 := q.1; have q2 := q.2
          repeat (first | rw [heap_set _ _ _ _ (by show _ ≠ z; omega)] | rw [heap_set _ _ _ _ (by simp; omega)])), OwnSl.stay (OwnSl.up ho_h3 (fr_h.inl.inr.mk1 (Nat.le_refl _) (by omega)) (Ext.refl _)) (fun z hb => by
          have q := fr_h.inl.inr.2 z hb; have q1 := q.1; have q2 := q.2
          repeat (first | rw [heap_set _ _ _ _ (by show _ ≠ z; omega)] | rw [heap_set _ _ _ _ (by simp; omega)])), OwnSl.stay (OwnSl.up ho_h4 (fr_h.inr.mk1 (Nat.le_refl _) (by omega)) (Ext.refl _)) (fun z hb => by
          have q := fr_h.inr.2 z hb; have q1 := q.1; have q2 := q.2
          repeat (first | rw [heap_set _ _ _ _ (by show _ ≠ z; omega)] | rw [heap_set _ _ _ _ (by simp; omega)])), fr_h.mk1 (by first | omega | (simp; done) | (simp; omega)) (by first | omega | (simp; done) | (simp; omega))⟩
  obtain ⟨q_h, A_h1, c_h1, A_h2, c_h2, A_h3, c_h3, A_h4, c_h4, F_h1, F_h2, F_h3, F_h4, rfl, rfl, hy, hq0_h, hq1_h, hBq_, hFq_, ho_h1, ho_h2, ho_h3, ho_h4, fr_h⟩ := hcut
  obtain ⟨w20, hwc⟩ : ∃ w20 : World, w20 = wc := ⟨_, rfl⟩
  subst hwc
  have hx20 : Ext w19 w20 := Ext.trans (Ext.auto) hy
  have hs20 := hx20.size
  have he20 : Ext w w20 := he19.trans hx20
  have hBb_20 : Bx w20 (w.heap.size) [.int .i64 b.pc, .int .i64 b.len, (.slice Ab1 b.ops.length cb1), .int .i64 b.fin, .int .i64 b.x, .int .i64 b.y, .int .i64 b.k] := hx20.bx hBb_19 (by omega)
  have hFb_20 : ∀ oo, w20.frozen? ⟨w.heap.size, oo, none⟩ = false := fun oo => (hx20.frozen (by omega)).trans (hFb_19 oo)
  have hBm_20 : Bx w20 (w.heap.size + 1) [(.slice Am1 m.regs.length cm1), .int .i64 m.pc, (.slice Am2 m.mem.length cm2), .int .i64 m.save, .bool m.lets, .bool m.waits, .int .i64 m.halt, (.slice Am3 m.ins.length cm3), (.slice Am4 m.outs.length cm4), .int .i64 m.count] := hx20.bx hBm_19 (by omega)
  have hFm_20 : ∀ oo, w20.frozen? ⟨w.heap.size + 1, oo, none⟩ = false := fun oo => (hx20.frozen (by omega)).trans (hFm_19 oo)
  have hBw_20 : Bx w20 (q_w) [(.slice A_w1 ((irRun b m).regs).length c_w1), .int .i64 ((irRun b m).pc), (.slice A_w2 ((irRun b m).mem).length c_w2), .int .i64 ((irRun b m).save), .bool (irRun b m).lets, .bool (irRun b m).waits, .int .i64 ((irRun b m).halt), (.slice A_w3 ((irRun b m).ins).length c_w3), (.slice A_w4 ((irRun b m).outs).length c_w4), .int .i64 ((irRun b m).count)] := hx20.bx hBw_19 (by omega)
  have hFw_20 : ∀ oo, w20.frozen? ⟨q_w, oo, none⟩ = false := fun oo => (hx20.frozen (by omega)).trans (hFw_19 oo)
  have hBxb_20 : Bx w20 (w4.heap.size) [.int .i64 b.pc, .int .i64 b.len, (.slice A_xb1 (b.ops).length c_xb1), .int .i64 b.fin, .int .i64 b.x, .int .i64 b.y, .int .i64 b.k] := hx20.bx hBxb_19 (by omega)
  have hFxb_20 : ∀ oo, w20.frozen? ⟨w4.heap.size, oo, none⟩ = false := fun oo => (hx20.frozen (by omega)).trans (hFxb_19 oo)
  have hBxm_20 : Bx w20 (w6.heap.size) [(.slice A_xm1 (m.regs).length c_xm1), .int .i64 m.pc, (.slice A_xm2 (m.mem).length c_xm2), .int .i64 m.save, .bool m.lets, .bool m.waits, .int .i64 m.halt, (.slice A_xm3 (m.ins).length c_xm3), (.slice A_xm4 (m.outs).length c_xm4), .int .i64 m.count] := hx20.bx hBxm_19 (by omega)
  have hFxm_20 : ∀ oo, w20.frozen? ⟨w6.heap.size, oo, none⟩ = false := fun oo => (hx20.frozen (by omega)).trans (hFxm_19 oo)
  have hBg_20 : Bx w20 (w8.heap.size) [(.slice A_g1 ((irRun b m).regs).length c_g1), .int .i64 ((irRun b m).pc), (.slice A_g2 ((irRun b m).mem).length c_g2), .int .i64 ((irRun b m).save), .bool (irRun b m).lets, .bool (irRun b m).waits, .int .i64 ((irRun b m).halt), (.slice A_g3 ((irRun b m).ins).length c_g3), (.slice A_g4 ((irRun b m).outs).length c_g4), .int .i64 ((irRun b m).count)] := hx20.bx hBg_19 (by omega)
  have hFg_20 : ∀ oo, w20.frozen? ⟨w8.heap.size, oo, none⟩ = false := fun oo => (hx20.frozen (by omega)).trans (hFg_19 oo)
  clear hBb_19 hFb_19 hBm_19 hFm_19 hBw_19 hFw_19 hBxb_19 hFxb_19 hBxm_19 hFxm_19 hBg_19 hFg_19
  clear hy
  have hBh_20 := hBq_
  have hFh_20 := hFq_
  clear hBq_ hFq_
  have yh : q_h < w20.heap.size := by omega
  have xh0 := hBh_20 0 _ rfl
  have xh1 := hBh_20 1 _ rfl
  have xh2 := hBh_20 2 _ rfl
  have xh3 := hBh_20 3 _ rfl
  have xh4 := hBh_20 4 _ rfl
  have xh5 := hBh_20 5 _ rfl
  have xh6 := hBh_20 6 _ rfl
  have xh7 := hBh_20 7 _ rfl
  have xh8 := hBh_20 8 _ rfl
  have xh9 := hBh_20 9 _ rfl
  have yw : q_w < w20.heap.size := by omega
  have xw0 := hBw_20 0 _ rfl
  have xw1 := hBw_20 1 _ rfl
  have xw2 := hBw_20 2 _ rfl
  have xw3 := hBw_20 3 _ rfl
  have xw4 := hBw_20 4 _ rfl
  have xw5 := hBw_20 5 _ rfl
  have xw6 := hBw_20 6 _ rfl
  have xw7 := hBw_20 7 _ rfl
  have xw8 := hBw_20 8 _ rfl
  have xw9 := hBw_20 9 _ rfl
  go_wp2_with fail
  clear xh0 xh1 xh2 xh3 xh4 xh5 xh6 xh7 xh8 xh9 yh
  clear xw0 xw1 xw2 xw3 xw4 xw5 xw6 xw7 xw8 xw9 yw
  refine (eq_MchMach ((irRun b m)) ((irRun b m)) _ _ _ _ _ _ _ _  _ ((OwnSl.up ho_h1 (fr_h.inl.inl.inl.mk1 (Nat.le_refl _) (by omega)) (Ext.refl _)).old (fr_h.inl.inl.inl.mk1 (Nat.le_refl _) (by omega))) ((OwnSl.up ho_h2 (fr_h.inl.inl.inr.mk1 (Nat.le_refl _) (by omega)) (Ext.refl _)).old (fr_h.inl.inl.inr.mk1 (Nat.le_refl _) (by omega))) ((OwnSl.up ho_h3 (fr_h.inl.inr.mk1 (Nat.le_refl _) (by omega)) (Ext.refl _)).old (fr_h.inl.inr.mk1 (Nat.le_refl _) (by omega))) ((OwnSl.up ho_h4 (fr_h.inr.mk1 (Nat.le_refl _) (by omega)) (Ext.refl _)).old (fr_h.inr.mk1 (Nat.le_refl _) (by omega))) ((OwnSl.up ho_w1 (fr_w.inl.inl.inl.mk1 (Nat.le_refl _) (by omega)) (Ext.trans hx19 hx20)).old (fr_w.inl.inl.inl.mk1 (Nat.le_refl _) (by omega))) ((OwnSl.up ho_w2 (fr_w.inl.inl.inr.mk1 (Nat.le_refl _) (by omega)) (Ext.trans hx19 hx20)).old (fr_w.inl.inl.inr.mk1 (Nat.le_refl _) (by omega))) ((OwnSl.up ho_w3 (fr_w.inl.inr.mk1 (Nat.le_refl _) (by omega)) (Ext.trans hx19 hx20)).old (fr_w.inl.inr.mk1 (Nat.le_refl _) (by omega))) ((OwnSl.up ho_w4 (fr_w.inr.mk1 (Nat.le_refl _) (by omega)) (Ext.trans hx19 hx20)).old (fr_w.inr.mk1 (Nat.le_refl _) (by omega)))).mono ?_
  rintro e w21 ⟨rfl, hy⟩
  have hx21 : Ext w20 w21 := Ext.trans (Ext.auto) hy
  have hs21 := hx21.size
  have he21 : Ext w w21 := he20.trans hx21
  have hBb_21 : Bx w21 (w.heap.size) [.int .i64 b.pc, .int .i64 b.len, (.slice Ab1 b.ops.length cb1), .int .i64 b.fin, .int .i64 b.x, .int .i64 b.y, .int .i64 b.k] := hx21.bx hBb_20 (by omega)
  have hFb_21 : ∀ oo, w21.frozen? ⟨w.heap.size, oo, none⟩ = false := fun oo => (hx21.frozen (by omega)).trans (hFb_20 oo)
  have hBm_21 : Bx w21 (w.heap.size + 1) [(.slice Am1 m.regs.length cm1), .int .i64 m.pc, (.slice Am2 m.mem.length cm2), .int .i64 m.save, .bool m.lets, .bool m.waits, .int .i64 m.halt, (.slice Am3 m.ins.length cm3), (.slice Am4 m.outs.length cm4), .int .i64 m.count] := hx21.bx hBm_20 (by omega)
  have hFm_21 : ∀ oo, w21.frozen? ⟨w.heap.size + 1, oo, none⟩ = false := fun oo => (hx21.frozen (by omega)).trans (hFm_20 oo)
  have hBw_21 : Bx w21 (q_w) [(.slice A_w1 ((irRun b m).regs).length c_w1), .int .i64 ((irRun b m).pc), (.slice A_w2 ((irRun b m).mem).length c_w2), .int .i64 ((irRun b m).save), .bool (irRun b m).lets, .bool (irRun b m).waits, .int .i64 ((irRun b m).halt), (.slice A_w3 ((irRun b m).ins).length c_w3), (.slice A_w4 ((irRun b m).outs).length c_w4), .int .i64 ((irRun b m).count)] := hx21.bx hBw_20 (by omega)
  have hFw_21 : ∀ oo, w21.frozen? ⟨q_w, oo, none⟩ = false := fun oo => (hx21.frozen (by omega)).trans (hFw_20 oo)
  have hBxb_21 : Bx w21 (w4.heap.size) [.int .i64 b.pc, .int .i64 b.len, (.slice A_xb1 (b.ops).length c_xb1), .int .i64 b.fin, .int .i64 b.x, .int .i64 b.y, .int .i64 b.k] := hx21.bx hBxb_20 (by omega)
  have hFxb_21 : ∀ oo, w21.frozen? ⟨w4.heap.size, oo, none⟩ = false := fun oo => (hx21.frozen (by omega)).trans (hFxb_20 oo)
  have hBxm_21 : Bx w21 (w6.heap.size) [(.slice A_xm1 (m.regs).length c_xm1), .int .i64 m.pc, (.slice A_xm2 (m.mem).length c_xm2), .int .i64 m.save, .bool m.lets, .bool m.waits, .int .i64 m.halt, (.slice A_xm3 (m.ins).length c_xm3), (.slice A_xm4 (m.outs).length c_xm4), .int .i64 m.count] := hx21.bx hBxm_20 (by omega)
  have hFxm_21 : ∀ oo, w21.frozen? ⟨w6.heap.size, oo, none⟩ = false := fun oo => (hx21.frozen (by omega)).trans (hFxm_20 oo)
  have hBg_21 : Bx w21 (w8.heap.size) [(.slice A_g1 ((irRun b m).regs).length c_g1), .int .i64 ((irRun b m).pc), (.slice A_g2 ((irRun b m).mem).length c_g2), .int .i64 ((irRun b m).save), .bool (irRun b m).lets, .bool (irRun b m).waits, .int .i64 ((irRun b m).halt), (.slice A_g3 ((irRun b m).ins).length c_g3), (.slice A_g4 ((irRun b m).outs).length c_g4), .int .i64 ((irRun b m).count)] := hx21.bx hBg_20 (by omega)
  have hFg_21 : ∀ oo, w21.frozen? ⟨w8.heap.size, oo, none⟩ = false := fun oo => (hx21.frozen (by omega)).trans (hFg_20 oo)
  have hBh_21 : Bx w21 (q_h) [(.slice A_h1 ((irRun b m).regs).length c_h1), .int .i64 ((irRun b m).pc), (.slice A_h2 ((irRun b m).mem).length c_h2), .int .i64 ((irRun b m).save), .bool (irRun b m).lets, .bool (irRun b m).waits, .int .i64 ((irRun b m).halt), (.slice A_h3 ((irRun b m).ins).length c_h3), (.slice A_h4 ((irRun b m).outs).length c_h4), .int .i64 ((irRun b m).count)] := hx21.bx hBh_20 (by omega)
  have hFh_21 : ∀ oo, w21.frozen? ⟨q_h, oo, none⟩ = false := fun oo => (hx21.frozen (by omega)).trans (hFh_20 oo)
  clear hBb_20 hFb_20 hBm_20 hFm_20 hBw_20 hFw_20 hBxb_20 hFxb_20 hBxm_20 hFxm_20 hBg_20 hFg_20 hBh_20 hFh_20
  clear hy
  have yg : w8.heap.size < w21.heap.size := by omega
  have xg0 := hBg_21 0 _ rfl
  have xg1 := hBg_21 1 _ rfl
  have xg2 := hBg_21 2 _ rfl
  have xg3 := hBg_21 3 _ rfl
  have xg4 := hBg_21 4 _ rfl
  have xg5 := hBg_21 5 _ rfl
  have xg6 := hBg_21 6 _ rfl
  have xg7 := hBg_21 7 _ rfl
  have xg8 := hBg_21 8 _ rfl
  have xg9 := hBg_21 9 _ rfl
  go_wp2_with fail
  clear xg0 xg1 xg2 xg3 xg4 xg5 xg6 xg7 xg8 xg9 yg
  refine (held_MchMach ((irRun b m)) _ _ _ _ (1) _ ((OwnSl.up hm_g1 (fr_g.inl.inl.inl.mk1 (Nat.le_refl _) (by omega)) (Ext.trans (Ext.trans hx19 hx20) hx21)).old (fr_g.inl.inl.inl.mk1 (Nat.le_refl _) (by omega))) ((OwnSl.up hm_g2 (fr_g.inl.inl.inr.mk1 (Nat.le_refl _) (by omega)) (Ext.trans (Ext.trans hx19 hx20) hx21)).old (fr_g.inl.inl.inr.mk1 (Nat.le_refl _) (by omega))) ((OwnSl.up hm_g3 (fr_g.inl.inr.mk1 (Nat.le_refl _) (by omega)) (Ext.trans (Ext.trans hx19 hx20) hx21)).old (fr_g.inl.inr.mk1 (Nat.le_refl _) (by omega))) ((OwnSl.up hm_g4 (fr_g.inr.mk1 (Nat.le_refl _) (by omega)) (Ext.trans (Ext.trans hx19 hx20) hx21)).old (fr_g.inr.mk1 (Nat.le_refl _) (by omega))) (by omega) (by omega)).mono ?_
  rintro e w22 ⟨rfl, hy⟩
  have hx22 : Ext w21 w22 := Ext.trans (Ext.auto) hy
  have hs22 := hx22.size
  have he22 : Ext w w22 := he21.trans hx22
  have hBb_22 : Bx w22 (w.heap.size) [.int .i64 b.pc, .int .i64 b.len, (.slice Ab1 b.ops.length cb1), .int .i64 b.fin, .int .i64 b.x, .int .i64 b.y, .int .i64 b.k] := hx22.bx hBb_21 (by omega)
  have hFb_22 : ∀ oo, w22.frozen? ⟨w.heap.size, oo, none⟩ = false := fun oo => (hx22.frozen (by omega)).trans (hFb_21 oo)
  have hBm_22 : Bx w22 (w.heap.size + 1) [(.slice Am1 m.regs.length cm1), .int .i64 m.pc, (.slice Am2 m.mem.length cm2), .int .i64 m.save, .bool m.lets, .bool m.waits, .int .i64 m.halt, (.slice Am3 m.ins.length cm3), (.slice Am4 m.outs.length cm4), .int .i64 m.count] := hx22.bx hBm_21 (by omega)
  have hFm_22 : ∀ oo, w22.frozen? ⟨w.heap.size + 1, oo, none⟩ = false := fun oo => (hx22.frozen (by omega)).trans (hFm_21 oo)
  have hBw_22 : Bx w22 (q_w) [(.slice A_w1 ((irRun b m).regs).length c_w1), .int .i64 ((irRun b m).pc), (.slice A_w2 ((irRun b m).mem).length c_w2), .int .i64 ((irRun b m).save), .bool (irRun b m).lets, .bool (irRun b m).waits, .int .i64 ((irRun b m).halt), (.slice A_w3 ((irRun b m).ins).length c_w3), (.slice A_w4 ((irRun b m).outs).length c_w4), .int .i64 ((irRun b m).count)] := hx22.bx hBw_21 (by omega)
  have hFw_22 : ∀ oo, w22.frozen? ⟨q_w, oo, none⟩ = false := fun oo => (hx22.frozen (by omega)).trans (hFw_21 oo)
  have hBxb_22 : Bx w22 (w4.heap.size) [.int .i64 b.pc, .int .i64 b.len, (.slice A_xb1 (b.ops).length c_xb1), .int .i64 b.fin, .int .i64 b.x, .int .i64 b.y, .int .i64 b.k] := hx22.bx hBxb_21 (by omega)
  have hFxb_22 : ∀ oo, w22.frozen? ⟨w4.heap.size, oo, none⟩ = false := fun oo => (hx22.frozen (by omega)).trans (hFxb_21 oo)
  have hBxm_22 : Bx w22 (w6.heap.size) [(.slice A_xm1 (m.regs).length c_xm1), .int .i64 m.pc, (.slice A_xm2 (m.mem).length c_xm2), .int .i64 m.save, .bool m.lets, .bool m.waits, .int .i64 m.halt, (.slice A_xm3 (m.ins).length c_xm3), (.slice A_xm4 (m.outs).length c_xm4), .int .i64 m.count] := hx22.bx hBxm_21 (by omega)
  have hFxm_22 : ∀ oo, w22.frozen? ⟨w6.heap.size, oo, none⟩ = false := fun oo => (hx22.frozen (by omega)).trans (hFxm_21 oo)
  have hBg_22 : Bx w22 (w8.heap.size) [(.slice A_g1 ((irRun b m).regs).length c_g1), .int .i64 ((irRun b m).pc), (.slice A_g2 ((irRun b m).mem).length c_g2), .int .i64 ((irRun b m).save), .bool (irRun b m).lets, .bool (irRun b m).waits, .int .i64 ((irRun b m).halt), (.slice A_g3 ((irRun b m).ins).length c_g3), (.slice A_g4 ((irRun b m).outs).length c_g4), .int .i64 ((irRun b m).count)] := hx22.bx hBg_21 (by omega)
  have hFg_22 : ∀ oo, w22.frozen? ⟨w8.heap.size, oo, none⟩ = false := fun oo => (hx22.frozen (by omega)).trans (hFg_21 oo)
  have hBh_22 : Bx w22 (q_h) [(.slice A_h1 ((irRun b m).regs).length c_h1), .int .i64 ((irRun b m).pc), (.slice A_h2 ((irRun b m).mem).length c_h2), .int .i64 ((irRun b m).save), .bool (irRun b m).lets, .bool (irRun b m).waits, .int .i64 ((irRun b m).halt), (.slice A_h3 ((irRun b m).ins).length c_h3), (.slice A_h4 ((irRun b m).outs).length c_h4), .int .i64 ((irRun b m).count)] := hx22.bx hBh_21 (by omega)
  have hFh_22 : ∀ oo, w22.frozen? ⟨q_h, oo, none⟩ = false := fun oo => (hx22.frozen (by omega)).trans (hFh_21 oo)
  clear hBb_21 hFb_21 hBm_21 hFm_21 hBw_21 hFw_21 hBxb_21 hFxb_21 hBxm_21 hFxm_21 hBg_21 hFg_21 hBh_21 hFh_21
  clear hy
  go_wp2
  go_ret
  exact ⟨rfl, he22⟩

end Go.Proofs.Yteaacelfnkiboaa
