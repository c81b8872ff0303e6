/-
  The piece of code at a place: the reference, and the program.
-/
import Derived.Test.YtokibcicoomceaaDoorFindPure
import Derived.Test.YtokibcicoomceaaDoorBlkTakeI
import Derived.Test.YtokibcicoomceaaDoorBlkOkI
import Derived.Test.YtokibcicoomceaaDoorMachOk
import Derived.Deep.DeepCutAuto
namespace Go.Proofs.YtokibcicoomceaaDoor
open Go.RowKit

set_option linter.unusedVariables false
set_option linter.unusedSimpArgs false
set_option maxRecDepth 100000

set_option maxHeartbeats 16000000 in
theorem specBlkFind_any (m : MchMach) (vm1 vm2 vm3 vm4 : Value) (w : World) (hm1 : Sl w (Old w) vm1 m.regs) (hm2 : Sl w (Old w) vm2 m.mem) (hm3 : Sl w (Old w) vm3 m.ins) (hm4 : Sl w (Old w) vm4 m.outs)  :
    Calls Tryd.prog 28 #[.agg #[vm1, .int .i64 m.pc, vm2, .int .i64 m.save, .bool m.lets, .bool m.waits, .int .i64 m.halt, vm3, vm4, .int .i64 m.count]] w fun e w' => (∃ v : Value, e = .returned v ∧ Gro 30 w.heap.size w' v (blkFind m)) ∧ Ext w w' := by
  obtain ⟨i0, hi, hz0, hz1, hz2⟩ := info_parts infInsIns
  have HI := hide hi
  have HZ0 := hide hz0
  have HZ1 := hide hz1
  have HZ2 := hide hz2
  clear hi hz0 hz1 hz2
  obtain ⟨Am1, cm1, rfl, hlm1, hmm1⟩ := hm1.form
  obtain ⟨Am2, cm2, rfl, hlm2, hmm2⟩ := hm2.form
  obtain ⟨Am3, cm3, rfl, hlm3, hmm3⟩ := hm3.form
  obtain ⟨Am4, cm4, rfl, hlm4, hmm4⟩ := hm4.form
  cases q0 : mchOkB m
  · 
    have HC := hide (show blkFind m = [] by unfold blkFind; rw [q0]; rfl)
    go_enter Tryd.func28, Tryd.ntmps28
    go_upto_region 1 with fail
    have he0 : Ext w (w.alloc (Obj.cells #[(.slice Am1 m.regs.length cm1), .int .i64 m.pc, (.slice Am2 m.mem.length cm2), .int .i64 m.save, .bool m.lets, .bool m.waits, .int .i64 m.halt, (.slice Am3 m.ins.length cm3), (.slice Am4 m.outs.length cm4), .int .i64 m.count] 51)) := (Ext.auto)
    have hs0 : w.heap.size + 1 ≤ ((w.alloc (Obj.cells #[(.slice Am1 m.regs.length cm1), .int .i64 m.pc, (.slice Am2 m.mem.length cm2), .int .i64 m.save, .bool m.lets, .bool m.waits, .int .i64 m.halt, (.slice Am3 m.ins.length cm3), (.slice Am4 m.outs.length cm4), .int .i64 m.count] 51))).heap.size := by simp
    have hq0 := hide (show ((w.alloc (Obj.cells #[(.slice Am1 m.regs.length cm1), .int .i64 m.pc, (.slice Am2 m.mem.length cm2), .int .i64 m.save, .bool m.lets, .bool m.waits, .int .i64 m.halt, (.slice Am3 m.ins.length cm3), (.slice Am4 m.outs.length cm4), .int .i64 m.count] 51))).heap.size = w.heap.size + 1 by simp)
    have hBm_0 : Bx (w.alloc (Obj.cells #[(.slice Am1 m.regs.length cm1), .int .i64 m.pc, (.slice Am2 m.mem.length cm2), .int .i64 m.save, .bool m.lets, .bool m.waits, .int .i64 m.halt, (.slice Am3 m.ins.length cm3), (.slice Am4 m.outs.length cm4), .int .i64 m.count] 51)) (w.heap.size) [(.slice Am1 m.regs.length cm1), .int .i64 m.pc, (.slice Am2 m.mem.length cm2), .int .i64 m.save, .bool m.lets, .bool m.waits, .int .i64 m.halt, (.slice Am3 m.ins.length cm3), (.slice Am4 m.outs.length cm4), .int .i64 m.count] := (by have := (Bx.new w #[(.slice Am1 m.regs.length cm1), .int .i64 m.pc, (.slice Am2 m.mem.length cm2), .int .i64 m.save, .bool m.lets, .bool m.waits, .int .i64 m.halt, (.slice Am3 m.ins.length cm3), (.slice Am4 m.outs.length cm4), .int .i64 m.count] 51); simpa using this)
    have hFm_0 : ∀ oo, ((w.alloc (Obj.cells #[(.slice Am1 m.regs.length cm1), .int .i64 m.pc, (.slice Am2 m.mem.length cm2), .int .i64 m.save, .bool m.lets, .bool m.waits, .int .i64 m.halt, (.slice Am3 m.ins.length cm3), (.slice Am4 m.outs.length cm4), .int .i64 m.count] 51))).frozen? ⟨w.heap.size, oo, none⟩ = false := fun oo => by simp
    generalize (w.alloc (Obj.cells #[(.slice Am1 m.regs.length cm1), .int .i64 m.pc, (.slice Am2 m.mem.length cm2), .int .i64 m.save, .bool m.lets, .bool m.waits, .int .i64 m.halt, (.slice Am3 m.ins.length cm3), (.slice Am4 m.outs.length cm4), .int .i64 m.count] 51)) = w0 at *
    have gm1 := hm1.ext he0
    have gm2 := hm2.ext he0
    have gm3 := hm3.ext he0
    have gm4 := hm4.ext he0
    have ym : w.heap.size < w0.heap.size := by omega
    have xm0 := hBm_0 0 _ rfl
    have xm1 := hBm_0 1 _ rfl
    have xm2 := hBm_0 2 _ rfl
    have xm3 := hBm_0 3 _ rfl
    have xm4 := hBm_0 4 _ rfl
    have xm5 := hBm_0 5 _ rfl
    have xm6 := hBm_0 6 _ rfl
    have xm7 := hBm_0 7 _ rfl
    have xm8 := hBm_0 8 _ rfl
    have xm9 := hBm_0 9 _ rfl
    have fm := hFm_0
    have hG0 := Gro.empty (α := InsIns) w0 30
    have hEa : Ext w0 (w0.alloc (.cells #[] 30)) := (Ext.refl _).alloc _
    go_wp2_with fail
    refine (specMchOk_any m _ _ _ _ _ (gm1.ext hEa) (gm2.ext hEa) (gm3.ext hEa) (gm4.ext hEa)).mono ?_
    rintro e w1 ⟨rfl, hy⟩
    simp only [q0]
    have hE1 : Ext w0 w1 := hEa.trans hy
    have hG1 := hG0.ext hy
    clear hy hG0 hEa
    clear xm0 xm1 xm2 xm3 xm4 xm5 xm6 xm7 xm8 xm9 ym
    clear fm
    go_wp2
    go_ret
    refine ⟨⟨_, rfl, ?_⟩, he0.trans hE1⟩
    rw [HC.out]
    exact hG1.down (by omega)
  · 
    have hk := mOk_iff.1 q0
    obtain ⟨P, hP⟩ := Int.eq_ofNat_of_zero_le hk.p0
    have hP1 := hk.p1
    have hml := hk.ml
    have HC := hide (show blkFind m = findB m.mem 8 P by unfold blkFind; rw [if_pos q0, hP]; rfl)
    have HK := hide hk
    have HP := hide hP
    have HML := hide hml
    clear hk hP hml
    go_enter Tryd.func28, Tryd.ntmps28
    go_upto_region 1 with fail
    have he0 : Ext w (w.alloc (Obj.cells #[(.slice Am1 m.regs.length cm1), .int .i64 m.pc, (.slice Am2 m.mem.length cm2), .int .i64 m.save, .bool m.lets, .bool m.waits, .int .i64 m.halt, (.slice Am3 m.ins.length cm3), (.slice Am4 m.outs.length cm4), .int .i64 m.count] 51)) := (Ext.auto)
    have hs0 : w.heap.size + 1 ≤ ((w.alloc (Obj.cells #[(.slice Am1 m.regs.length cm1), .int .i64 m.pc, (.slice Am2 m.mem.length cm2), .int .i64 m.save, .bool m.lets, .bool m.waits, .int .i64 m.halt, (.slice Am3 m.ins.length cm3), (.slice Am4 m.outs.length cm4), .int .i64 m.count] 51))).heap.size := by simp
    have hq0 := hide (show ((w.alloc (Obj.cells #[(.slice Am1 m.regs.length cm1), .int .i64 m.pc, (.slice Am2 m.mem.length cm2), .int .i64 m.save, .bool m.lets, .bool m.waits, .int .i64 m.halt, (.slice Am3 m.ins.length cm3), (.slice Am4 m.outs.length cm4), .int .i64 m.count] 51))).heap.size = w.heap.size + 1 by simp)
    have hBm_0 : Bx (w.alloc (Obj.cells #[(.slice Am1 m.regs.length cm1), .int .i64 m.pc, (.slice Am2 m.mem.length cm2), .int .i64 m.save, .bool m.lets, .bool m.waits, .int .i64 m.halt, (.slice Am3 m.ins.length cm3), (.slice Am4 m.outs.length cm4), .int .i64 m.count] 51)) (w.heap.size) [(.slice Am1 m.regs.length cm1), .int .i64 m.pc, (.slice Am2 m.mem.length cm2), .int .i64 m.save, .bool m.lets, .bool m.waits, .int .i64 m.halt, (.slice Am3 m.ins.length cm3), (.slice Am4 m.outs.length cm4), .int .i64 m.count] := (by have := (Bx.new w #[(.slice Am1 m.regs.length cm1), .int .i64 m.pc, (.slice Am2 m.mem.length cm2), .int .i64 m.save, .bool m.lets, .bool m.waits, .int .i64 m.halt, (.slice Am3 m.ins.length cm3), (.slice Am4 m.outs.length cm4), .int .i64 m.count] 51); simpa using this)
    have hFm_0 : ∀ oo, ((w.alloc (Obj.cells #[(.slice Am1 m.regs.length cm1), .int .i64 m.pc, (.slice Am2 m.mem.length cm2), .int .i64 m.save, .bool m.lets, .bool m.waits, .int .i64 m.halt, (.slice Am3 m.ins.length cm3), (.slice Am4 m.outs.length cm4), .int .i64 m.count] 51))).frozen? ⟨w.heap.size, oo, none⟩ = false := fun oo => by simp
    generalize (w.alloc (Obj.cells #[(.slice Am1 m.regs.length cm1), .int .i64 m.pc, (.slice Am2 m.mem.length cm2), .int .i64 m.save, .bool m.lets, .bool m.waits, .int .i64 m.halt, (.slice Am3 m.ins.length cm3), (.slice Am4 m.outs.length cm4), .int .i64 m.count] 51)) = w0 at *
    have gm1 := hm1.ext he0
    have gm2 := hm2.ext he0
    have gm3 := hm3.ext he0
    have gm4 := hm4.ext he0
    have ym : w.heap.size < w0.heap.size := by omega
    have xm0 := hBm_0 0 _ rfl
    have xm1 := hBm_0 1 _ rfl
    have xm2 := hBm_0 2 _ rfl
    have xm3 := hBm_0 3 _ rfl
    have xm4 := hBm_0 4 _ rfl
    have xm5 := hBm_0 5 _ rfl
    have xm6 := hBm_0 6 _ rfl
    have xm7 := hBm_0 7 _ rfl
    have xm8 := hBm_0 8 _ rfl
    have xm9 := hBm_0 9 _ rfl
    have fm := hFm_0
    have hG0 := Gro.empty (α := InsIns) w0 30
    have hEa : Ext w0 (w0.alloc (.cells #[] 30)) := (Ext.refl _).alloc _
    go_wp2_with fail
    refine (specMchOk_any m _ _ _ _ _ (gm1.ext hEa) (gm2.ext hEa) (gm3.ext hEa) (gm4.ext hEa)).mono ?_
    rintro e w1 ⟨rfl, hy⟩
    simp only [q0]
    have hE1 : Ext w0 w1 := hEa.trans hy
    have hG1 := hG0.ext hy
    clear hy hG0 hEa
    clear xm0 xm1 xm2 xm3 xm4 xm5 xm6 xm7 xm8 xm9 ym
    clear fm
    clear q0
    have hB1 : Bx w1 (w.heap.size) [(.slice Am1 m.regs.length cm1), .int .i64 m.pc, (.slice Am2 m.mem.length cm2), .int .i64 m.save, .bool m.lets, .bool m.waits, .int .i64 m.halt, (.slice Am3 m.ins.length cm3), (.slice Am4 m.outs.length cm4), .int .i64 m.count] := hE1.bx hBm_0 (by omega)
    have hs1 := hE1.size
    have ym : w.heap.size < w1.heap.size := by omega
    have xm0 := hB1 0 _ rfl
    have xm1 := hB1 1 _ rfl
    have xm2 := hB1 2 _ rfl
    have xm3 := hB1 3 _ rfl
    have xm4 := hB1 4 _ rfl
    have xm5 := hB1 5 _ rfl
    have xm6 := hB1 6 _ rfl
    have xm7 := hB1 7 _ rfl
    have xm8 := hB1 8 _ rfl
    have xm9 := hB1 9 _ rfl
    go_wp2
    clear ym hB1 hs1 xm0 xm1 xm2 xm3 xm4 xm5 xm6 xm7 xm8 xm9
    go_loopw [3, 4, 5, 6] (fun vo vk _ _ wz => ∃ (l : List InsIns) (A : Option Addr) (c : Nat), vo = .slice A l.length c ∧ vk = .int .i64 (l.length : Int) ∧ l.length ≤ 8 ∧ Hid (FindAt m.mem P l) ∧ Gro 30 w0.heap.size wz (.slice A l.length c) l ∧ Ext w0 wz) (fun _ vk _ _ _ => 8 - (intOf vk).toNat)
    case atStart => exact ⟨[], _, 0, rfl, rfl, by simp, FindAt.start _ _, hG1, hE1⟩
    case round =>
      obtain ⟨w2, hwr⟩ : ∃ w2 : World, w2 = wr := ⟨_, rfl⟩
      subst hwr
      clear hG1 hE1
      obtain ⟨l, A, c, rfl, rfl, hle, HB, hG, hE⟩ := hrel
      have hsw := hE.size
      obtain ⟨q, hq⟩ : ∃ q, q = P + l.length := ⟨_, rfl⟩
      have zw : IntKind.i64.wrap (m.pc + (l.length : Int)) = (q : Int) := by (have hP := HP.out); rw [hP, IntKind.wrap_i64] <;> omega
      have HQ := hide hq
      clear hq
      have hB2 : Bx w2 (w.heap.size) [(.slice Am1 m.regs.length cm1), .int .i64 m.pc, (.slice Am2 m.mem.length cm2), .int .i64 m.save, .bool m.lets, .bool m.waits, .int .i64 m.halt, (.slice Am3 m.ins.length cm3), (.slice Am4 m.outs.length cm4), .int .i64 m.count] := hE.bx hBm_0 (by omega)
      have hF2 : ∀ oo, w2.frozen? ⟨w.heap.size, oo, none⟩ = false := fun oo => (hE.frozen (by omega)).trans (hFm_0 oo)
      by_cases h8 : l.length < 8
      rotate_left
      · 
        have c8 : decide ((l.length : Int) < 8) = false := decide_eq_false (by omega)
        have HF := hide (HB.out.full (by omega))
        go_wp2
        go_ret
        refine ⟨⟨_, rfl, ?_⟩, he0.trans hE⟩
        rw [HC.out, ← HF.out]
        exact hG.down (by omega)
      have c8 : decide ((l.length : Int) < 8) = true := decide_eq_true (by omega)
      by_cases h64 : q < 64
      rotate_left
      · 
        have c64 : decide ((q : Int) < 64) = false := decide_eq_false (by omega)
        have ym : w.heap.size < w2.heap.size := by omega
        have xm0 := hB2 0 _ rfl
        have xm1 := hB2 1 _ rfl
        have xm2 := hB2 2 _ rfl
        have xm3 := hB2 3 _ rfl
        have xm4 := hB2 4 _ rfl
        have xm5 := hB2 5 _ rfl
        have xm6 := hB2 6 _ rfl
        have xm7 := hB2 7 _ rfl
        have xm8 := hB2 8 _ rfl
        have xm9 := hB2 9 _ rfl
        have HF := hide (HB.out.out (by have := HQ.out; have := HML.out; omega))
        go_wp2
        go_ret
        refine ⟨⟨_, rfl, ?_⟩, he0.trans hE⟩
        rw [HC.out, ← HF.out]
        exact hG.down (by omega)
      have c64 : decide ((q : Int) < 64) = true := decide_eq_true (by omega)
      have hq := HQ.out
      have hlt : q < m.mem.length := by have := HML.out; omega
      have HST := hide (HB.out.stopQ h8 hq hlt)
      have HLA := hide (HB.out.lastQ h8 hq hlt)
      have HGO := hide (HB.out.goQ h8 hq hlt)
      have hin9 := insTake_in m.mem[q]
      obtain ⟨bb, off, hbe, hbo, hk0, e0⟩ := at_Int (gm2.ext hE) hlt
      clear hq
      have z0 : (0 : Int) ≤ (q : Int) := by omega
      have z1 : (q : Int) < (m.mem.length : Int) := by omega
      subst hbe
      have ym : w.heap.size < w2.heap.size := by omega
      have xm0 := hB2 0 _ rfl
      have xm1 := hB2 1 _ rfl
      have xm2 := hB2 2 _ rfl
      have xm3 := hB2 3 _ rfl
      have xm4 := hB2 4 _ rfl
      have xm5 := hB2 5 _ rfl
      have xm6 := hB2 6 _ rfl
      have xm7 := hB2 7 _ rfl
      have xm8 := hB2 8 _ rfl
      have xm9 := hB2 9 _ rfl
      clear hP1
      go_wp2_with fail
      refine (specInsTake_any m.mem[q] _).mono ?_
      rintro e w3 ⟨rfl, hy⟩
      clear e0 ym xm0 xm1 xm2 xm3 xm4 xm5 xm6 xm7 xm8 xm9
      go_upto_region 8 with fail
      have hBx : Bx (w3.alloc (.cells #[.int .i64 (insTake m.mem[q]).op, .int .i64 (insTake m.mem[q]).d, .int .i64 (insTake m.mem[q]).a, .int .i64 (insTake m.mem[q]).k] 30)) w3.heap.size [.int .i64 (insTake m.mem[q]).op, .int .i64 (insTake m.mem[q]).d, .int .i64 (insTake m.mem[q]).a, .int .i64 (insTake m.mem[q]).k] := Bx.new w3 #[.int .i64 (insTake m.mem[q]).op, .int .i64 (insTake m.mem[q]).d, .int .i64 (insTake m.mem[q]).a, .int .i64 (insTake m.mem[q]).k] 30
      have hFx : ∀ oo, (w3.alloc (.cells #[.int .i64 (insTake m.mem[q]).op, .int .i64 (insTake m.mem[q]).d, .int .i64 (insTake m.mem[q]).a, .int .i64 (insTake m.mem[q]).k] 30)).frozen? ⟨w3.heap.size, oo, none⟩ = false := fz_new w3 #[.int .i64 (insTake m.mem[q]).op, .int .i64 (insTake m.mem[q]).d, .int .i64 (insTake m.mem[q]).a, .int .i64 (insTake m.mem[q]).k] 30 rfl
      have hEx := hE.trans ((hy.trans (show Ext w3 (w3.alloc (.cells #[.int .i64 (insTake m.mem[q]).op, .int .i64 (insTake m.mem[q]).d, .int .i64 (insTake m.mem[q]).a, .int .i64 (insTake m.mem[q]).k] 30)) from Ext.auto)))
      have hG2 := hG.ext ((hy.trans (show Ext w3 (w3.alloc (.cells #[.int .i64 (insTake m.mem[q]).op, .int .i64 (insTake m.mem[q]).d, .int .i64 (insTake m.mem[q]).a, .int .i64 (insTake m.mem[q]).k] 30)) from Ext.auto)))
      have hs1 : w2.heap.size ≤ w3.heap.size := hy.size
      have hG3 := hG.ext hy
      have hnx : ∀ q, (Value.slice A l.length c).ownBlock = some q → q ≠ w3.heap.size := fun q hq e => by have := (hG3.lt q hq).2; omega
      clear hG3
      have hs2 : w3.heap.size + 1 ≤ (w3.alloc (.cells #[.int .i64 (insTake m.mem[q]).op, .int .i64 (insTake m.mem[q]).d, .int .i64 (insTake m.mem[q]).a, .int .i64 (insTake m.mem[q]).k] 30)).heap.size := by simp
      clear hG hE hy hB2 hF2
      generalize (w3.alloc (.cells #[.int .i64 (insTake m.mem[q]).op, .int .i64 (insTake m.mem[q]).d, .int .i64 (insTake m.mem[q]).a, .int .i64 (insTake m.mem[q]).k] 30)) = w4 at *
      have hE := hEx
      have hG := hG2
      have hGl := hG.lt
      have yx : w3.heap.size < w4.heap.size := by omega
      have xx0 := hBx 0 _ rfl
      have xx1 := hBx 1 _ rfl
      have xx2 := hBx 2 _ rfl
      have xx3 := hBx 3 _ rfl
      generalize hn9 : insTakeB m.mem[q] = ok at *
      generalize insTake m.mem[q] = i at *
      clear hn9
      cases ok
      · 
        have HF := hide (HST.out rfl)
        go_wp2
        go_ret
        refine ⟨⟨_, rfl, ?_⟩, he0.trans hE⟩
        rw [HC.out, ← HF.out]
        exact hG.down (by omega)
      cases q1 : (i.op == 0)
      rotate_left
      · 
        have HX := hide (show (true && (i.op != 0)) = false by simpa using q1)
        have HF := hide (HST.out HX.out)
        go_wp2
        go_ret
        refine ⟨⟨_, rfl, ?_⟩, he0.trans hE⟩
        rw [HC.out, ← HF.out]
        exact hG.down (by omega)
      have HX := hide (show (true && (i.op != 0)) = true by simpa using q1)
      have hok9 : InsIns.Ok i := hin9.ok
      obtain ⟨wa, Fs, xs, h00, hA⟩ := hG
      have hAf := hA.flat
      have hl1 : (l ++ [i]).length = l.length + 1 := by simp
      cases p1 : endB i.op
      · 
        have HN := hide (HGO.out HX.out p1)
        have HR := hide p1
        clear p1
        go_wp2_with (at_builtin; go_must (refine wpList_append_push2 (α := InsIns) (w0 := wa) (wr := w4) rfl _ _ 23 rfl i0 _ 32 Tryd.underlying23 HI.out HZ0.out HZ1.out HZ2.out rfl (by decide) hA.app rfl (i) #[.int .i64 i.op, .int .i64 i.d, .int .i64 i.a, .int .i64 i.k] 30 [] _ rfl Ext.auto ⟨rfl, hok9, rfl⟩ (Fr.nil _ _) (by repeat (first | (exact fun _ h => absurd h (List.not_mem_nil)) | (refine List.forall_mem_cons.2 ⟨rfl, ?_⟩))) (by unfold maxLen; omega) (by omega) ?_); intro v' w9 xs' hA9 hg9 hb9; have hG9 := Gro.push h00 (fun q hq => (hGl q hq).1) (by simp; omega) hAf hA9 hb9; have hT9 := (Turn.of_grown (a := w4) (b := (w4.alloc (.cells #[.int .i64 i.op, .int .i64 i.d, .int .i64 i.a, .int .i64 i.k] 30))) Ext.auto hg9); obtain ⟨A9, c9, rfl, -, -⟩ := hG9.form; have hE9 := hT9.ext hE (fun q hq => (hGl q (by simpa using hq)).1); have hB9 := hT9.bx hBx (by omega) (by intro hm; exact hnx _ (by simpa using hm) rfl); clear hBx xx0 xx1 xx2 xx3; have xx0 := hB9 0 _ rfl; have yx9 : w3.heap.size < w9.heap.size := by have := hT9.size; omega)
        go_at_call 51; refine (specInsEnds_is i.op _).mono ?_; rintro e w5 ⟨rfl, rfl⟩; rw [HR.out]
        go_wp2
        go_round
        case rel => exact ⟨l ++ [i], A9, c9, by rw [hl1], by rw [hl1]; go_num, by rw [hl1]; omega, HN, hG9, hE9⟩
        case measure => (simp [intOf]; try omega)
      · 
        have HN := hide (HLA.out HX.out p1)
        have HR := hide p1
        clear p1
        go_wp2_with (at_builtin; go_must (refine wpList_append_push2 (α := InsIns) (w0 := wa) (wr := w4) rfl _ _ 23 rfl i0 _ 32 Tryd.underlying23 HI.out HZ0.out HZ1.out HZ2.out rfl (by decide) hA.app rfl (i) #[.int .i64 i.op, .int .i64 i.d, .int .i64 i.a, .int .i64 i.k] 30 [] _ rfl Ext.auto ⟨rfl, hok9, rfl⟩ (Fr.nil _ _) (by repeat (first | (exact fun _ h => absurd h (List.not_mem_nil)) | (refine List.forall_mem_cons.2 ⟨rfl, ?_⟩))) (by unfold maxLen; omega) (by omega) ?_); intro v' w9 xs' hA9 hg9 hb9; have hG9 := Gro.push h00 (fun q hq => (hGl q hq).1) (by simp; omega) hAf hA9 hb9; have hT9 := (Turn.of_grown (a := w4) (b := (w4.alloc (.cells #[.int .i64 i.op, .int .i64 i.d, .int .i64 i.a, .int .i64 i.k] 30))) Ext.auto hg9); obtain ⟨A9, c9, rfl, -, -⟩ := hG9.form; have hE9 := hT9.ext hE (fun q hq => (hGl q (by simpa using hq)).1); have hB9 := hT9.bx hBx (by omega) (by intro hm; exact hnx _ (by simpa using hm) rfl); clear hBx xx0 xx1 xx2 xx3; have xx0 := hB9 0 _ rfl; have yx9 : w3.heap.size < w9.heap.size := by have := hT9.size; omega)
        go_at_call 51; refine (specInsEnds_is i.op _).mono ?_; rintro e w5 ⟨rfl, rfl⟩; rw [HR.out]
        rw [hl1] at hG9
        go_wp2
        go_ret
        refine ⟨⟨_, rfl, ?_⟩, he0.trans hE9⟩
        rw [HC.out, ← HN.out]
        exact hG9.down (by omega)

set_option maxHeartbeats 16000000 in
theorem implBlkFind_any (m : MchMach) (vm1 vm2 vm3 vm4 : Value) (w : World) (hm1 : Sl w (Old w) vm1 m.regs) (hm2 : Sl w (Old w) vm2 m.mem) (hm3 : Sl w (Old w) vm3 m.ins) (hm4 : Sl w (Old w) vm4 m.outs) (lf : Nat) (hF : Forms lf w) :
    Calls Tryd.prog 30 #[.agg #[vm1, .int .i64 m.pc, vm2, .int .i64 m.save, .bool m.lets, .bool m.waits, .int .i64 m.halt, vm3, vm4, .int .i64 m.count]] w fun e w' => (∃ v : Value, e = .returned v ∧ Gro 30 w.heap.size w' v (blkFind m)) ∧ Ext w w' := by
  obtain ⟨i0, hi, hz0, hz1, hz2⟩ := info_parts infInsIns
  have HI := hide hi
  have HZ0 := hide hz0
  have HZ1 := hide hz1
  have HZ2 := hide hz2
  clear hi hz0 hz1 hz2
  obtain ⟨Am1, cm1, rfl, hlm1, hmm1⟩ := hm1.form
  obtain ⟨Am2, cm2, rfl, hlm2, hmm2⟩ := hm2.form
  obtain ⟨Am3, cm3, rfl, hlm3, hmm3⟩ := hm3.form
  obtain ⟨Am4, cm4, rfl, hlm4, hmm4⟩ := hm4.form
  cases q0 : mchOkB m
  · 
    have HC := hide (show blkFind m = [] by unfold blkFind; rw [q0]; rfl)
    go_enter Tryd.func30, Tryd.ntmps30
    go_upto_region 1 with fail
    have he0 : Ext w (w.alloc (Obj.cells #[(.slice Am1 m.regs.length cm1), .int .i64 m.pc, (.slice Am2 m.mem.length cm2), .int .i64 m.save, .bool m.lets, .bool m.waits, .int .i64 m.halt, (.slice Am3 m.ins.length cm3), (.slice Am4 m.outs.length cm4), .int .i64 m.count] 51)) := (Ext.auto)
    have hs0 : w.heap.size + 1 ≤ ((w.alloc (Obj.cells #[(.slice Am1 m.regs.length cm1), .int .i64 m.pc, (.slice Am2 m.mem.length cm2), .int .i64 m.save, .bool m.lets, .bool m.waits, .int .i64 m.halt, (.slice Am3 m.ins.length cm3), (.slice Am4 m.outs.length cm4), .int .i64 m.count] 51))).heap.size := by simp
    have hq0 := hide (show ((w.alloc (Obj.cells #[(.slice Am1 m.regs.length cm1), .int .i64 m.pc, (.slice Am2 m.mem.length cm2), .int .i64 m.save, .bool m.lets, .bool m.waits, .int .i64 m.halt, (.slice Am3 m.ins.length cm3), (.slice Am4 m.outs.length cm4), .int .i64 m.count] 51))).heap.size = w.heap.size + 1 by simp)
    have hBm_0 : Bx (w.alloc (Obj.cells #[(.slice Am1 m.regs.length cm1), .int .i64 m.pc, (.slice Am2 m.mem.length cm2), .int .i64 m.save, .bool m.lets, .bool m.waits, .int .i64 m.halt, (.slice Am3 m.ins.length cm3), (.slice Am4 m.outs.length cm4), .int .i64 m.count] 51)) (w.heap.size) [(.slice Am1 m.regs.length cm1), .int .i64 m.pc, (.slice Am2 m.mem.length cm2), .int .i64 m.save, .bool m.lets, .bool m.waits, .int .i64 m.halt, (.slice Am3 m.ins.length cm3), (.slice Am4 m.outs.length cm4), .int .i64 m.count] := (by have := (Bx.new w #[(.slice Am1 m.regs.length cm1), .int .i64 m.pc, (.slice Am2 m.mem.length cm2), .int .i64 m.save, .bool m.lets, .bool m.waits, .int .i64 m.halt, (.slice Am3 m.ins.length cm3), (.slice Am4 m.outs.length cm4), .int .i64 m.count] 51); simpa using this)
    have hFm_0 : ∀ oo, ((w.alloc (Obj.cells #[(.slice Am1 m.regs.length cm1), .int .i64 m.pc, (.slice Am2 m.mem.length cm2), .int .i64 m.save, .bool m.lets, .bool m.waits, .int .i64 m.halt, (.slice Am3 m.ins.length cm3), (.slice Am4 m.outs.length cm4), .int .i64 m.count] 51))).frozen? ⟨w.heap.size, oo, none⟩ = false := fun oo => by simp
    generalize (w.alloc (Obj.cells #[(.slice Am1 m.regs.length cm1), .int .i64 m.pc, (.slice Am2 m.mem.length cm2), .int .i64 m.save, .bool m.lets, .bool m.waits, .int .i64 m.halt, (.slice Am3 m.ins.length cm3), (.slice Am4 m.outs.length cm4), .int .i64 m.count] 51)) = w0 at *
    have gm1 := hm1.ext he0
    have gm2 := hm2.ext he0
    have gm3 := hm3.ext he0
    have gm4 := hm4.ext he0
    have ym : w.heap.size < w0.heap.size := by omega
    have xm0 := hBm_0 0 _ rfl
    have xm1 := hBm_0 1 _ rfl
    have xm2 := hBm_0 2 _ rfl
    have xm3 := hBm_0 3 _ rfl
    have xm4 := hBm_0 4 _ rfl
    have xm5 := hBm_0 5 _ rfl
    have xm6 := hBm_0 6 _ rfl
    have xm7 := hBm_0 7 _ rfl
    have xm8 := hBm_0 8 _ rfl
    have xm9 := hBm_0 9 _ rfl
    have fm := hFm_0
    have hG0 := Gro.nil (α := InsIns) w0 30 w0.heap.size
    have hEa : Ext w0 w0 := Ext.refl _
    have hF0 := hF.ext he0
    go_wp2_with fail
    refine (implMchOk_any m _ _ _ _ _ (gm1.ext hEa) (gm2.ext hEa) (gm3.ext hEa) (gm4.ext hEa)).mono ?_
    rintro e w1 ⟨rfl, hy⟩
    simp only [q0]
    have hE1 : Ext w0 w1 := hEa.trans hy
    have hG1 := hG0.ext hy
    clear hy hG0 hEa
    clear xm0 xm1 xm2 xm3 xm4 xm5 xm6 xm7 xm8 xm9 ym
    clear fm
    go_wp2
    go_ret
    refine ⟨⟨_, rfl, ?_⟩, he0.trans hE1⟩
    rw [HC.out]
    exact Gro.nil _ _ _
  · 
    have hk := mOk_iff.1 q0
    obtain ⟨P, hP⟩ := Int.eq_ofNat_of_zero_le hk.p0
    have hP1 := hk.p1
    have hml := hk.ml
    have HC := hide (show blkFind m = findB m.mem 8 P by unfold blkFind; rw [if_pos q0, hP]; rfl)
    have HK := hide hk
    have HP := hide hP
    have HML := hide hml
    clear hk hP hml
    go_enter Tryd.func30, Tryd.ntmps30
    go_upto_region 1 with fail
    have he0 : Ext w (w.alloc (Obj.cells #[(.slice Am1 m.regs.length cm1), .int .i64 m.pc, (.slice Am2 m.mem.length cm2), .int .i64 m.save, .bool m.lets, .bool m.waits, .int .i64 m.halt, (.slice Am3 m.ins.length cm3), (.slice Am4 m.outs.length cm4), .int .i64 m.count] 51)) := (Ext.auto)
    have hs0 : w.heap.size + 1 ≤ ((w.alloc (Obj.cells #[(.slice Am1 m.regs.length cm1), .int .i64 m.pc, (.slice Am2 m.mem.length cm2), .int .i64 m.save, .bool m.lets, .bool m.waits, .int .i64 m.halt, (.slice Am3 m.ins.length cm3), (.slice Am4 m.outs.length cm4), .int .i64 m.count] 51))).heap.size := by simp
    have hq0 := hide (show ((w.alloc (Obj.cells #[(.slice Am1 m.regs.length cm1), .int .i64 m.pc, (.slice Am2 m.mem.length cm2), .int .i64 m.save, .bool m.lets, .bool m.waits, .int .i64 m.halt, (.slice Am3 m.ins.length cm3), (.slice Am4 m.outs.length cm4), .int .i64 m.count] 51))).heap.size = w.heap.size + 1 by simp)
    have hBm_0 : Bx (w.alloc (Obj.cells #[(.slice Am1 m.regs.length cm1), .int .i64 m.pc, (.slice Am2 m.mem.length cm2), .int .i64 m.save, .bool m.lets, .bool m.waits, .int .i64 m.halt, (.slice Am3 m.ins.length cm3), (.slice Am4 m.outs.length cm4), .int .i64 m.count] 51)) (w.heap.size) [(.slice Am1 m.regs.length cm1), .int .i64 m.pc, (.slice Am2 m.mem.length cm2), .int .i64 m.save, .bool m.lets, .bool m.waits, .int .i64 m.halt, (.slice Am3 m.ins.length cm3), (.slice Am4 m.outs.length cm4), .int .i64 m.count] := (by have := (Bx.new w #[(.slice Am1 m.regs.length cm1), .int .i64 m.pc, (.slice Am2 m.mem.length cm2), .int .i64 m.save, .bool m.lets, .bool m.waits, .int .i64 m.halt, (.slice Am3 m.ins.length cm3), (.slice Am4 m.outs.length cm4), .int .i64 m.count] 51); simpa using this)
    have hFm_0 : ∀ oo, ((w.alloc (Obj.cells #[(.slice Am1 m.regs.length cm1), .int .i64 m.pc, (.slice Am2 m.mem.length cm2), .int .i64 m.save, .bool m.lets, .bool m.waits, .int .i64 m.halt, (.slice Am3 m.ins.length cm3), (.slice Am4 m.outs.length cm4), .int .i64 m.count] 51))).frozen? ⟨w.heap.size, oo, none⟩ = false := fun oo => by simp
    generalize (w.alloc (Obj.cells #[(.slice Am1 m.regs.length cm1), .int .i64 m.pc, (.slice Am2 m.mem.length cm2), .int .i64 m.save, .bool m.lets, .bool m.waits, .int .i64 m.halt, (.slice Am3 m.ins.length cm3), (.slice Am4 m.outs.length cm4), .int .i64 m.count] 51)) = w0 at *
    have gm1 := hm1.ext he0
    have gm2 := hm2.ext he0
    have gm3 := hm3.ext he0
    have gm4 := hm4.ext he0
    have ym : w.heap.size < w0.heap.size := by omega
    have xm0 := hBm_0 0 _ rfl
    have xm1 := hBm_0 1 _ rfl
    have xm2 := hBm_0 2 _ rfl
    have xm3 := hBm_0 3 _ rfl
    have xm4 := hBm_0 4 _ rfl
    have xm5 := hBm_0 5 _ rfl
    have xm6 := hBm_0 6 _ rfl
    have xm7 := hBm_0 7 _ rfl
    have xm8 := hBm_0 8 _ rfl
    have xm9 := hBm_0 9 _ rfl
    have fm := hFm_0
    have hG0 := Gro.nil (α := InsIns) w0 30 w0.heap.size
    have hEa : Ext w0 w0 := Ext.refl _
    have hF0 := hF.ext he0
    go_wp2_with fail
    refine (implMchOk_any m _ _ _ _ _ (gm1.ext hEa) (gm2.ext hEa) (gm3.ext hEa) (gm4.ext hEa)).mono ?_
    rintro e w1 ⟨rfl, hy⟩
    simp only [q0]
    have hE1 : Ext w0 w1 := hEa.trans hy
    have hG1 := hG0.ext hy
    clear hy hG0 hEa
    clear xm0 xm1 xm2 xm3 xm4 xm5 xm6 xm7 xm8 xm9 ym
    clear fm
    clear q0
    have hB1 : Bx w1 (w.heap.size) [(.slice Am1 m.regs.length cm1), .int .i64 m.pc, (.slice Am2 m.mem.length cm2), .int .i64 m.save, .bool m.lets, .bool m.waits, .int .i64 m.halt, (.slice Am3 m.ins.length cm3), (.slice Am4 m.outs.length cm4), .int .i64 m.count] := hE1.bx hBm_0 (by omega)
    have hs1 := hE1.size
    have ym : w.heap.size < w1.heap.size := by omega
    have xm0 := hB1 0 _ rfl
    have xm1 := hB1 1 _ rfl
    have xm2 := hB1 2 _ rfl
    have xm3 := hB1 3 _ rfl
    have xm4 := hB1 4 _ rfl
    have xm5 := hB1 5 _ rfl
    have xm6 := hB1 6 _ rfl
    have xm7 := hB1 7 _ rfl
    have xm8 := hB1 8 _ rfl
    have xm9 := hB1 9 _ rfl
    go_wp2
    clear ym hB1 hs1 xm0 xm1 xm2 xm3 xm4 xm5 xm6 xm7 xm8 xm9
    go_loopw [3, 4, 5, 6] (fun vo vk _ _ wz => ∃ (l : List InsIns) (A : Option Addr) (c : Nat), vo = .slice A l.length c ∧ vk = .int .i64 ((P + l.length : Nat) : Int) ∧ l.length ≤ 8 ∧ Hid (FindAt m.mem P l) ∧ Gro 30 w0.heap.size wz (.slice A l.length c) l ∧ Ext w0 wz) (fun _ vk _ _ _ => 65536 - (intOf vk).toNat)
    case atStart => exact ⟨[], _, 0, rfl, by rw [HP.out]; rfl, by simp, FindAt.start _ _, hG1, hE1⟩
    case round =>
      obtain ⟨w2, hwr⟩ : ∃ w2 : World, w2 = wr := ⟨_, rfl⟩
      subst hwr
      clear hG1 hE1
      obtain ⟨l, A, c, rfl, rfl, hle, HB, hG, hE⟩ := hrel
      have hsw := hE.size
      obtain ⟨q, hq⟩ : ∃ q, q = P + l.length := ⟨_, rfl⟩
      rw [← hq]
      have HQ := hide hq
      clear hq
      have hB2 : Bx w2 (w.heap.size) [(.slice Am1 m.regs.length cm1), .int .i64 m.pc, (.slice Am2 m.mem.length cm2), .int .i64 m.save, .bool m.lets, .bool m.waits, .int .i64 m.halt, (.slice Am3 m.ins.length cm3), (.slice Am4 m.outs.length cm4), .int .i64 m.count] := hE.bx hBm_0 (by omega)
      have hF2 : ∀ oo, w2.frozen? ⟨w.heap.size, oo, none⟩ = false := fun oo => (hE.frozen (by omega)).trans (hFm_0 oo)
      by_cases h8 : l.length < 8
      rotate_left
      · 
        have c8 : decide ((l.length : Int) < 8) = false := decide_eq_false (by omega)
        by_cases h64 : q < 64
        · 
          have c64 : decide ((q : Int) < 64) = true := decide_eq_true (by omega)
          have HF := hide (HB.out.full (by omega))
          go_wp2
          go_ret
          refine ⟨⟨_, rfl, ?_⟩, he0.trans hE⟩
          rw [HC.out, ← HF.out]
          exact hG.down (by omega)
        · 
          have c64 : decide ((q : Int) < 64) = false := decide_eq_false (by omega)
          have HF := hide (HB.out.full (by omega))
          go_wp2
          go_ret
          refine ⟨⟨_, rfl, ?_⟩, he0.trans hE⟩
          rw [HC.out, ← HF.out]
          exact hG.down (by omega)
      have c8 : decide ((l.length : Int) < 8) = true := decide_eq_true (by omega)
      by_cases h64 : q < 64
      rotate_left
      · 
        have c64 : decide ((q : Int) < 64) = false := decide_eq_false (by omega)
        have ym : w.heap.size < w2.heap.size := by omega
        have xm0 := hB2 0 _ rfl
        have xm1 := hB2 1 _ rfl
        have xm2 := hB2 2 _ rfl
        have xm3 := hB2 3 _ rfl
        have xm4 := hB2 4 _ rfl
        have xm5 := hB2 5 _ rfl
        have xm6 := hB2 6 _ rfl
        have xm7 := hB2 7 _ rfl
        have xm8 := hB2 8 _ rfl
        have xm9 := hB2 9 _ rfl
        have HF := hide (HB.out.out (by have := HQ.out; have := HML.out; omega))
        go_wp2
        go_ret
        refine ⟨⟨_, rfl, ?_⟩, he0.trans hE⟩
        rw [HC.out, ← HF.out]
        exact hG.down (by omega)
      have c64 : decide ((q : Int) < 64) = true := decide_eq_true (by omega)
      have hq := HQ.out
      have hlt : q < m.mem.length := by have := HML.out; omega
      have HST := hide (HB.out.stopQ h8 hq hlt)
      have HLA := hide (HB.out.lastQ h8 hq hlt)
      have HGO := hide (HB.out.goQ h8 hq hlt)
      have hin9 := insTake_in m.mem[q]
      obtain ⟨bb, off, hbe, hbo, hk0, e0⟩ := at_Int (gm2.ext hE) hlt
      clear hq
      have z0 : (0 : Int) ≤ (q : Int) := by omega
      have z1 : (q : Int) < (m.mem.length : Int) := by omega
      subst hbe
      have ym : w.heap.size < w2.heap.size := by omega
      have xm0 := hB2 0 _ rfl
      have xm1 := hB2 1 _ rfl
      have xm2 := hB2 2 _ rfl
      have xm3 := hB2 3 _ rfl
      have xm4 := hB2 4 _ rfl
      have xm5 := hB2 5 _ rfl
      have xm6 := hB2 6 _ rfl
      have xm7 := hB2 7 _ rfl
      have xm8 := hB2 8 _ rfl
      have xm9 := hB2 9 _ rfl
      clear hP1
      have hFe := hF0.ext hE
      go_wp2_with fail
      refine (implInsTake_any m.mem[q] _ lf hFe).mono ?_
      rintro e w3 ⟨rfl, hy⟩
      clear e0 ym xm0 xm1 xm2 xm3 xm4 xm5 xm6 xm7 xm8 xm9
      go_upto_region 8 with fail
      have hBx : Bx (w3.alloc (.cells #[.int .i64 (insTake m.mem[q]).op, .int .i64 (insTake m.mem[q]).d, .int .i64 (insTake m.mem[q]).a, .int .i64 (insTake m.mem[q]).k] 30)) w3.heap.size [.int .i64 (insTake m.mem[q]).op, .int .i64 (insTake m.mem[q]).d, .int .i64 (insTake m.mem[q]).a, .int .i64 (insTake m.mem[q]).k] := Bx.new w3 #[.int .i64 (insTake m.mem[q]).op, .int .i64 (insTake m.mem[q]).d, .int .i64 (insTake m.mem[q]).a, .int .i64 (insTake m.mem[q]).k] 30
      have hFx : ∀ oo, (w3.alloc (.cells #[.int .i64 (insTake m.mem[q]).op, .int .i64 (insTake m.mem[q]).d, .int .i64 (insTake m.mem[q]).a, .int .i64 (insTake m.mem[q]).k] 30)).frozen? ⟨w3.heap.size, oo, none⟩ = false := fz_new w3 #[.int .i64 (insTake m.mem[q]).op, .int .i64 (insTake m.mem[q]).d, .int .i64 (insTake m.mem[q]).a, .int .i64 (insTake m.mem[q]).k] 30 rfl
      have hEx := hE.trans ((hy.trans (show Ext w3 (w3.alloc (.cells #[.int .i64 (insTake m.mem[q]).op, .int .i64 (insTake m.mem[q]).d, .int .i64 (insTake m.mem[q]).a, .int .i64 (insTake m.mem[q]).k] 30)) from Ext.auto)))
      have hG2 := hG.ext ((hy.trans (show Ext w3 (w3.alloc (.cells #[.int .i64 (insTake m.mem[q]).op, .int .i64 (insTake m.mem[q]).d, .int .i64 (insTake m.mem[q]).a, .int .i64 (insTake m.mem[q]).k] 30)) from Ext.auto)))
      have hs1 : w2.heap.size ≤ w3.heap.size := hy.size
      have hG3 := hG.ext hy
      have hnx : ∀ q, (Value.slice A l.length c).ownBlock = some q → q ≠ w3.heap.size := fun q hq e => by have := (hG3.lt q hq).2; omega
      clear hG3
      have hs2 : w3.heap.size + 1 ≤ (w3.alloc (.cells #[.int .i64 (insTake m.mem[q]).op, .int .i64 (insTake m.mem[q]).d, .int .i64 (insTake m.mem[q]).a, .int .i64 (insTake m.mem[q]).k] 30)).heap.size := by simp
      clear hG hE hy hB2 hF2
      generalize (w3.alloc (.cells #[.int .i64 (insTake m.mem[q]).op, .int .i64 (insTake m.mem[q]).d, .int .i64 (insTake m.mem[q]).a, .int .i64 (insTake m.mem[q]).k] 30)) = w4 at *
      have hE := hEx
      have hG := hG2
      have hGl := hG.lt
      have yx : w3.heap.size < w4.heap.size := by omega
      have xx0 := hBx 0 _ rfl
      have xx1 := hBx 1 _ rfl
      have xx2 := hBx 2 _ rfl
      have xx3 := hBx 3 _ rfl
      generalize hn9 : insTakeB m.mem[q] = ok at *
      generalize insTake m.mem[q] = i at *
      clear hn9
      cases ok
      · 
        have HF := hide (HST.out rfl)
        go_wp2
        go_ret
        refine ⟨⟨_, rfl, ?_⟩, he0.trans hE⟩
        rw [HC.out, ← HF.out]
        exact hG.down (by omega)
      cases q1 : (i.op == 0)
      rotate_left
      · 
        have HX := hide (show (true && (i.op != 0)) = false by simpa using q1)
        have HF := hide (HST.out HX.out)
        go_wp2
        go_ret
        refine ⟨⟨_, rfl, ?_⟩, he0.trans hE⟩
        rw [HC.out, ← HF.out]
        exact hG.down (by omega)
      have HX := hide (show (true && (i.op != 0)) = true by simpa using q1)
      have hok9 : InsIns.Ok i := hin9.ok
      obtain ⟨wa, Fs, xs, h00, hA⟩ := hG
      have hAf := hA.flat
      have hl1 : (l ++ [i]).length = l.length + 1 := by simp
      cases p1 : endB i.op
      · 
        have HN := hide (HGO.out HX.out p1)
        have HR := hide p1
        clear p1
        go_wp2_with (at_builtin; go_must (refine wpList_append_push2 (α := InsIns) (w0 := wa) (wr := w4) rfl _ _ 23 rfl i0 _ 32 Tryd.underlying23 HI.out HZ0.out HZ1.out HZ2.out rfl (by decide) hA.app rfl (i) #[.int .i64 i.op, .int .i64 i.d, .int .i64 i.a, .int .i64 i.k] 30 [] _ rfl Ext.auto ⟨rfl, hok9, rfl⟩ (Fr.nil _ _) (by repeat (first | (exact fun _ h => absurd h (List.not_mem_nil)) | (refine List.forall_mem_cons.2 ⟨rfl, ?_⟩))) (by unfold maxLen; omega) (by omega) ?_); intro v' w9 xs' hA9 hg9 hb9; have hG9 := Gro.push h00 (fun q hq => (hGl q hq).1) (by simp; omega) hAf hA9 hb9; have hT9 := (Turn.of_grown (a := w4) (b := (w4.alloc (.cells #[.int .i64 i.op, .int .i64 i.d, .int .i64 i.a, .int .i64 i.k] 30))) Ext.auto hg9); obtain ⟨A9, c9, rfl, -, -⟩ := hG9.form; have hE9 := hT9.ext hE (fun q hq => (hGl q (by simpa using hq)).1); have hB9 := hT9.bx hBx (by omega) (by intro hm; exact hnx _ (by simpa using hm) rfl); clear hBx xx0 xx1 xx2 xx3; have xx0 := hB9 0 _ rfl; have yx9 : w3.heap.size < w9.heap.size := by have := hT9.size; omega)
        go_at_call 13; refine (implInsEnds_is i.op _).mono ?_; rintro e w5 ⟨rfl, rfl⟩; rw [HR.out]
        go_wp2
        go_round
        case rel => exact ⟨l ++ [i], A9, c9, by rw [hl1], by rw [hl1, show P + (l.length + 1) = q + 1 by have := HQ.out; omega]; go_num, by rw [hl1]; omega, HN, hG9, hE9⟩
        case measure => (simp [intOf]; try omega)
      · 
        have HN := hide (HLA.out HX.out p1)
        have HR := hide p1
        clear p1
        go_wp2_with (at_builtin; go_must (refine wpList_append_push2 (α := InsIns) (w0 := wa) (wr := w4) rfl _ _ 23 rfl i0 _ 32 Tryd.underlying23 HI.out HZ0.out HZ1.out HZ2.out rfl (by decide) hA.app rfl (i) #[.int .i64 i.op, .int .i64 i.d, .int .i64 i.a, .int .i64 i.k] 30 [] _ rfl Ext.auto ⟨rfl, hok9, rfl⟩ (Fr.nil _ _) (by repeat (first | (exact fun _ h => absurd h (List.not_mem_nil)) | (refine List.forall_mem_cons.2 ⟨rfl, ?_⟩))) (by unfold maxLen; omega) (by omega) ?_); intro v' w9 xs' hA9 hg9 hb9; have hG9 := Gro.push h00 (fun q hq => (hGl q hq).1) (by simp; omega) hAf hA9 hb9; have hT9 := (Turn.of_grown (a := w4) (b := (w4.alloc (.cells #[.int .i64 i.op, .int .i64 i.d, .int .i64 i.a, .int .i64 i.k] 30))) Ext.auto hg9); obtain ⟨A9, c9, rfl, -, -⟩ := hG9.form; have hE9 := hT9.ext hE (fun q hq => (hGl q (by simpa using hq)).1); have hB9 := hT9.bx hBx (by omega) (by intro hm; exact hnx _ (by simpa using hm) rfl); clear hBx xx0 xx1 xx2 xx3; have xx0 := hB9 0 _ rfl; have yx9 : w3.heap.size < w9.heap.size := by have := hT9.size; omega)
        go_at_call 13; refine (implInsEnds_is i.op _).mono ?_; rintro e w5 ⟨rfl, rfl⟩; rw [HR.out]
        rw [hl1] at hG9
        go_wp2
        go_ret
        refine ⟨⟨_, rfl, ?_⟩, he0.trans hE9⟩
        rw [HC.out, ← HN.out]
        exact hG9.down (by omega)

end Go.Proofs.YtokibcicoomceaaDoor
