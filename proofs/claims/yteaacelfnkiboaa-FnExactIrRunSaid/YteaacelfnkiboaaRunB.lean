/-
  A run through a piece of code: the program, in place.
-/
import Derived.Test.YteaacelfnkiboaaRunP
import Derived.Test.YteaacelfnkiboaaIrOkJ
import Derived.Test.YteaacelfnkiboaaConstW
import Derived.Test.YteaacelfnkiboaaMClone
import Derived.Deep.DeepCutAuto
import Derived.Deep.CutBlock
namespace Go.Proofs.Yteaacelfnkiboaa
open Go.RowKit

set_option linter.unusedVariables false
set_option linter.unusedSimpArgs false
set_option maxRecDepth 100000

theorem infuInt : (Try.prog.info? 3).map (fun i => (i.zero, i.size, i.bytes)) = some (some (.int .i64 0), 1, 8) := by kernel_rfl

set_option maxHeartbeats 16000000 in
theorem input_any (m : MchMach) (g1 o1 c1 g2 o2 c2 : Nat) (v3 v4 : Value) (lo : Nat) (X : List Nat) (w : World) (hM : Mach 3 lo X w g1 o1 c1 g2 o2 c2 v3 v4 m) (bm : Nat) (hbX : bm ∈ X) (hBm : Bx w bm [(.slice (some ⟨g1, o1, none⟩) 4 c1), .int .i64 m.pc, (.slice (some ⟨g2, o2, none⟩) 64 c2), .int .i64 m.save, .bool m.lets, .bool m.waits, .int .i64 m.halt, v3, v4, .int .i64 m.count]) (hFm : ∀ oo, w.frozen? ⟨bm, oo, none⟩ = false) :
    Calls Try.prog 95 #[.pointer (some ⟨bm, 0, none⟩)] w fun e w' => e = .returned (.int .i64 ((m.ins[0]?).getD 0)) ∧ ∃ v3', Bx w' bm [(.slice (some ⟨g1, o1, none⟩) 4 c1), .int .i64 (({ m with ins := m.ins.drop 1 } : MchMach).pc), (.slice (some ⟨g2, o2, none⟩) 64 c2), .int .i64 (({ m with ins := m.ins.drop 1 } : MchMach).save), .bool ({ m with ins := m.ins.drop 1 } : MchMach).lets, .bool ({ m with ins := m.ins.drop 1 } : MchMach).waits, .int .i64 (({ m with ins := m.ins.drop 1 } : MchMach).halt), v3', v4, .int .i64 (({ m with ins := m.ins.drop 1 } : MchMach).count)] ∧ (∀ oo, w'.frozen? ⟨bm, oo, none⟩ = false) ∧ Mach 3 lo X w' g1 o1 c1 g2 o2 c2 v3' v4 ({ m with ins := m.ins.drop 1 } : MchMach) ∧ Turn [bm] w w' := by
  obtain ⟨A3, c3, rfl, hl3, hm3⟩ := hM.form3
  unfold maxLen at hm3
  have hb1_ : bm < w.heap.size := by
    obtain ⟨F3, wa, Fs, xs, hC⟩ := hM
    exact (hC.av bm hbX).1
  have xm0 := hBm 0 _ rfl
  have xm1 := hBm 1 _ rfl
  have xm2 := hBm 2 _ rfl
  have xm3 := hBm 3 _ rfl
  have xm4 := hBm 4 _ rfl
  have xm5 := hBm 5 _ rfl
  have xm6 := hBm 6 _ rfl
  have xm7 := hBm 7 _ rfl
  have xm8 := hBm 8 _ rfl
  have xm9 := hBm 9 _ rfl
  by_cases hin : 0 < m.ins.length
  · 
    have q1 : ((m.ins.length : Int) == 0) = false := beq_eq_false_iff_ne.2 (by omega)
    obtain ⟨bi, oi, o3, rfl, hif, hbi, -, hci, -, e0, hM0⟩ := hM.dropIns hin
    have HN := hide (show (m.ins[0]?).getD 0 = m.ins[0] by rw [List.getElem?_eq_getElem hin]; rfl)
    have z0 : (0 : Int) < (m.ins.length : Int) := by omega
    have z1 : (1 : Int) ≤ (m.ins.length : Int) := by omega
    go_enter Try.func95, Try.ntmps95
    go_wp2
    try simp only [hif]
    clear hif
    have hBF : Bx (w.setCell ⟨bm, 7, none⟩ (.slice (some ⟨bi, o3, none⟩) (m.ins.length - 1) (c3 - 1))) bm [(.slice (some ⟨g1, o1, none⟩) 4 c1), .int .i64 m.pc, (.slice (some ⟨g2, o2, none⟩) 64 c2), .int .i64 m.save, .bool m.lets, .bool m.waits, .int .i64 m.halt, (.slice (some ⟨bi, o3, none⟩) (m.ins.length - 1) (c3 - 1)), v4, .int .i64 m.count] := by have := Bx.put hBm (j := 7) (by simp) (.slice (some ⟨bi, o3, none⟩) (m.ins.length - 1) (c3 - 1)); simpa using this
    refine bodyPost_ret (v := .int .i64 m.ins[0]) (by simp [results, Try.results95, go_sem]) rfl ?_
    exact ⟨by rw [HN.out], _, hBF, fz_hold hFm, Mach.far hM0 hbX (p := ⟨bm, 7, none⟩) _, (Turn.refl _ _).set (.inl (by simp)) _⟩
  · 
    have q1 : ((m.ins.length : Int) == 0) = true := beq_iff_eq.2 (by omega)
    have hnil : m.ins = [] := List.eq_nil_of_length_eq_zero (by omega)
    have HN := hide (show (m.ins[0]?).getD 0 = 0 by rw [hnil]; rfl)
    have HE := hide (show ({ m with ins := m.ins.drop 1 } : MchMach) = m by cases m; simp only at hnil; subst hnil; rfl)
    clear hnil
    go_enter Try.func95, Try.ntmps95
    go_wp2
    refine bodyPost_ret (v := .int .i64 0) (by simp [results, Try.results95, go_sem]) rfl ?_
    rw [HE.out, HN.out]
    exact ⟨rfl, _, hBm, hFm, hM, Turn.refl _ _⟩

set_option maxHeartbeats 64000000 in
theorem irunI_any (b : IrBlock) (m : MchMach) (vb : Value) (g1 o1 c1 g2 o2 c2 : Nat) (v3 v4 : Value) (X : List Nat) (wb w : World) (heb : Ext wb w) (hb1 : Sl wb (Old wb) vb b.ops) (hbo : irOkB b = true) (hbf : b.Ok) (hM : Mach 3 wb.heap.size X w g1 o1 c1 g2 o2 c2 v3 v4 m) (hk : MOk m) (hpc : m.pc = b.pc) (hh : m.halt = 0) (hct : m.count ≤ 1000000 - b.len) (hn5 : m.outs.length ≤ 4190100) (bm : Nat) (hbX : bm ∈ X) (hBm : Bx w bm [(.slice (some ⟨g1, o1, none⟩) 4 c1), .int .i64 m.pc, (.slice (some ⟨g2, o2, none⟩) 64 c2), .int .i64 m.save, .bool m.lets, .bool m.waits, .int .i64 m.halt, v3, v4, .int .i64 m.count]) (hFm : ∀ oo, w.frozen? ⟨bm, oo, none⟩ = false) :
    Calls Try.prog 64 #[.agg #[.int .i64 b.pc, .int .i64 b.len, vb, .int .i64 b.fin, .int .i64 b.x, .int .i64 b.y, .int .i64 b.k], .pointer (some ⟨bm, 0, none⟩)] w fun e w' => e = .returned (.tuple #[]) ∧ ∃ v3' v4', Bx w' bm [(.slice (some ⟨g1, o1, none⟩) 4 c1), .int .i64 ((rEnd b (rTo b m b.ops.length)).pc), (.slice (some ⟨g2, o2, none⟩) 64 c2), .int .i64 ((rEnd b (rTo b m b.ops.length)).save), .bool (rEnd b (rTo b m b.ops.length)).lets, .bool (rEnd b (rTo b m b.ops.length)).waits, .int .i64 ((rEnd b (rTo b m b.ops.length)).halt), v3', v4', .int .i64 ((rEnd b (rTo b m b.ops.length)).count)] ∧ (∀ oo, w'.frozen? ⟨bm, oo, none⟩ = false) ∧ Mach 3 wb.heap.size X w' g1 o1 c1 g2 o2 c2 v3' v4' (rEnd b (rTo b m b.ops.length)) ∧ Ext wb w' ∧ w.heap.size ≤ w'.heap.size := by
  obtain ⟨Ab1, cb1, rfl, hlb, hmb⟩ := hb1.form
  obtain ⟨A3, c3, rfl, hl3, hm3⟩ := hM.form3
  obtain ⟨A4, c4, rfl, hl4, hm4⟩ := hM.form4
  unfold maxLen at hm3 hm4 hmb
  have hpb := ok_pc hbo
  have hle := ok_len hbo
  have hbn := ok_n hbo
  have hbk := hide hbo
  have HP := hide hpc
  have HH := hide hh
  have hcc0 := hk.c0
  clear hpc hh hbo
  have hbmA := hM.apart hbX
  have hbm1 : bm < w.heap.size := hbmA.1
  have hbm2 : wb.heap.size ≤ bm := hbmA.2.1
  clear hbmA
  have hwb := heb.size
  obtain ⟨i_m, hi_m, hz0_m, hz1_m, hz2_m⟩ := info_parts infuInt
  have hmk_m : ∀ w : World, (Instr.makeSlice 41 (.int .i64 (b.ops.length : Int)) (.int .i64 (b.ops.length : Int))).run Try.prog w = .ok (.slice (some ⟨w.heap.size, 0, none⟩) b.ops.length b.ops.length) (w.alloc (.cells (madeCells (Value.int .i64 0).cells (b.ops.length * i_m.size)) 3)) :=
    fun w => run_make_rowN 41 3 i_m _ Try.underlying41 hi_m hz0_m _ _ (b.ops.length) (b.ops.length) (Nat.le_refl _) (by rw [hz2_m]; omega) (by omega) w
  have HM_m := hide (show b.ops.length * i_m.size = b.ops.length by rw [show i_m.size = 1 from hz1_m]; try omega)
  clear hi_m hz0_m hz1_m hz2_m
  obtain ⟨i0, hi, hz0, hz1, hz2⟩ := info_parts infInt
  have HI := hide hi
  have HZ0 := hide hz0
  have HZ1 := hide hz1
  have HZ2 := hide hz2
  clear hi hz0 hz1 hz2
  go_enter Try.func64, Try.ntmps64
  go_upto_region 1 with fail
  have he0 : Ext w (w.alloc (Obj.cells #[.int .i64 b.pc, .int .i64 b.len, (.slice Ab1 b.ops.length cb1), .int .i64 b.fin, .int .i64 b.x, .int .i64 b.y, .int .i64 b.k] 25)) := (Ext.auto)
  have hs0 : w.heap.size + 1 ≤ ((w.alloc (Obj.cells #[.int .i64 b.pc, .int .i64 b.len, (.slice Ab1 b.ops.length cb1), .int .i64 b.fin, .int .i64 b.x, .int .i64 b.y, .int .i64 b.k] 25))).heap.size := by simp
  have hq0 := hide (show ((w.alloc (Obj.cells #[.int .i64 b.pc, .int .i64 b.len, (.slice Ab1 b.ops.length cb1), .int .i64 b.fin, .int .i64 b.x, .int .i64 b.y, .int .i64 b.k] 25))).heap.size = w.heap.size + 1 by simp)
  have hBb_0 : Bx (w.alloc (Obj.cells #[.int .i64 b.pc, .int .i64 b.len, (.slice Ab1 b.ops.length cb1), .int .i64 b.fin, .int .i64 b.x, .int .i64 b.y, .int .i64 b.k] 25)) (w.heap.size) [.int .i64 b.pc, .int .i64 b.len, (.slice Ab1 b.ops.length cb1), .int .i64 b.fin, .int .i64 b.x, .int .i64 b.y, .int .i64 b.k] := (by have := (Bx.new w #[.int .i64 b.pc, .int .i64 b.len, (.slice Ab1 b.ops.length cb1), .int .i64 b.fin, .int .i64 b.x, .int .i64 b.y, .int .i64 b.k] 25); simpa using this)
  have hFb_0 : ∀ oo, ((w.alloc (Obj.cells #[.int .i64 b.pc, .int .i64 b.len, (.slice Ab1 b.ops.length cb1), .int .i64 b.fin, .int .i64 b.x, .int .i64 b.y, .int .i64 b.k] 25))).frozen? ⟨w.heap.size, oo, none⟩ = false := fun oo => by simp
  generalize (w.alloc (Obj.cells #[.int .i64 b.pc, .int .i64 b.len, (.slice Ab1 b.ops.length cb1), .int .i64 b.fin, .int .i64 b.x, .int .i64 b.y, .int .i64 b.k] 25)) = w0 at *
  have hBm_0 : Bx w0 bm [(.slice (some ⟨g1, o1, none⟩) 4 c1), .int .i64 m.pc, (.slice (some ⟨g2, o2, none⟩) 64 c2), .int .i64 m.save, .bool m.lets, .bool m.waits, .int .i64 m.halt, (.slice A3 m.ins.length c3), (.slice A4 m.outs.length c4), .int .i64 m.count] := he0.bx hBm hbm1
  have hFm_0 : ∀ oo, w0.frozen? ⟨bm, oo, none⟩ = false := fun oo => (he0.frozen hbm1).trans (hFm oo)
  have hM : Mach 3 wb.heap.size (w.heap.size :: X) w0 g1 o1 c1 g2 o2 c2 (.slice A3 m.ins.length c3) (.slice A4 m.outs.length c4) m := hM.addXs he0 [w.heap.size] (by intro b hb; simp at hb; omega)
  replace he0 := heb.trans he0
  clear hBm hFm
  have yb : w.heap.size < w0.heap.size := by omega
  have xb0 := hBb_0 0 _ rfl
  have xb1 := hBb_0 1 _ rfl
  have xb2 := hBb_0 2 _ rfl
  have xb3 := hBb_0 3 _ rfl
  have xb4 := hBb_0 4 _ rfl
  have xb5 := hBb_0 5 _ rfl
  have xb6 := hBb_0 6 _ rfl
  have fb := hFb_0
  go_upto_region 2 with fail
  clear xb0 xb1 xb2 xb3 xb4 xb5 xb6 yb
  clear fb
  have hV := FRow.make (α := Int) w0 (Value.int .i64 0) 3 (b.ops.length) (0 : Int) rfl ⟨rfl, fits_small (by omega) (by omega)⟩ HM_m.out
  have he1 : Ext wb (w0.alloc (.cells (madeCells #[Value.int .i64 0] (b.ops.length * i_m.size)) 3)) := Ext.hold he0
  have hs1 : w0.heap.size + 1 ≤ ((w0.alloc (.cells (madeCells #[Value.int .i64 0] (b.ops.length * i_m.size)) 3))).heap.size := by simp
  have hBb_1 : Bx (w0.alloc (.cells (madeCells #[Value.int .i64 0] (b.ops.length * i_m.size)) 3)) (w.heap.size) [.int .i64 b.pc, .int .i64 b.len, (.slice Ab1 b.ops.length cb1), .int .i64 b.fin, .int .i64 b.x, .int .i64 b.y, .int .i64 b.k] := Bx.hold hBb_0
  have hFb_1 : ∀ oo, (w0.alloc (.cells (madeCells #[Value.int .i64 0] (b.ops.length * i_m.size)) 3)).frozen? ⟨w.heap.size, oo, none⟩ = false := fz_hold hFb_0
  have hBm_1 : Bx (w0.alloc (.cells (madeCells #[Value.int .i64 0] (b.ops.length * i_m.size)) 3)) (bm) [(.slice (some ⟨g1, o1, none⟩) 4 c1), .int .i64 m.pc, (.slice (some ⟨g2, o2, none⟩) 64 c2), .int .i64 m.save, .bool m.lets, .bool m.waits, .int .i64 m.halt, (.slice A3 m.ins.length c3), (.slice A4 m.outs.length c4), .int .i64 m.count] := Bx.hold hBm_0
  have hFm_1 : ∀ oo, (w0.alloc (.cells (madeCells #[Value.int .i64 0] (b.ops.length * i_m.size)) 3)).frozen? ⟨bm, oo, none⟩ = false := fz_hold hFm_0
  have hMq := (hM.addXs (show Ext w0 (w0.alloc (.cells (madeCells #[Value.int .i64 0] (b.ops.length * i_m.size)) 3)) from Ext.auto) [w0.heap.size] (by intro b hb; simp at hb; subst hb; exact ⟨Nat.le_refl _, by simp⟩) : Mach _ _ _ (w0.alloc (.cells (madeCells #[Value.int .i64 0] (b.ops.length * i_m.size)) 3)) _ _ _ _ _ _ _ _ _)
  have hVq := (hV : FRow (w0.alloc (.cells (madeCells #[Value.int .i64 0] (b.ops.length * i_m.size)) 3)) _ _ _)
  generalize (w0.alloc (.cells (madeCells #[Value.int .i64 0] (b.ops.length * i_m.size)) 3)) = w1 at *
  clear hBb_0 hFb_0 hBm_0 hFm_0 hM hV
  have hM := hMq
  clear hMq
  have hV := hVq
  clear hVq
  have hM : Mach 3 wb.heap.size (w0.heap.size :: w.heap.size :: X) w1 g1 o1 c1 g2 o2 c2 (.slice A3 m.ins.length c3) (.slice A4 m.outs.length c4) m := hM
  rw [← padV_nil] at hV
  have hbX : bm ∈ (w0.heap.size :: w.heap.size :: X) := List.mem_cons_of_mem _ (List.mem_cons_of_mem _ hbX)
  have yb : w.heap.size < w1.heap.size := by omega
  have xb0 := hBb_1 0 _ rfl
  have xb1 := hBb_1 1 _ rfl
  have xb2 := hBb_1 2 _ rfl
  have xb3 := hBb_1 3 _ rfl
  have xb4 := hBb_1 4 _ rfl
  have xb5 := hBb_1 5 _ rfl
  have xb6 := hBb_1 6 _ rfl
  have fb := hFb_1
  go_wp2
  clear xb0 xb1 xb2 xb3 xb4 xb5 xb6 yb
  clear fb
  go_loopw [16] (fun kk wz => ∃ (k : Nat) (y : RSt) (B3 B4 : Option Addr) (d3 d4 : Nat), kk = .int .i64 (k : Int) ∧ k ≤ b.ops.length ∧ Hid (rTo b m k = y) ∧ Hid (y.left = false) ∧ FRow wz w0.heap.size 0 (padV b.ops.length y.vals) ∧ Mach 3 wb.heap.size (w0.heap.size :: w.heap.size :: X) wz g1 o1 c1 g2 o2 c2 (.slice B3 y.m.ins.length d3) (.slice B4 y.m.outs.length d4) y.m ∧ Ext wb wz ∧ w1.heap.size ≤ wz.heap.size ∧ Bx wz (w.heap.size) [.int .i64 b.pc, .int .i64 b.len, (.slice Ab1 b.ops.length cb1), .int .i64 b.fin, .int .i64 b.x, .int .i64 b.y, .int .i64 b.k] ∧ (∀ oo, wz.frozen? ⟨w.heap.size, oo, none⟩ = false) ∧ Bx wz bm [(.slice (some ⟨g1, o1, none⟩) 4 c1), .int .i64 y.m.pc, (.slice (some ⟨g2, o2, none⟩) 64 c2), .int .i64 y.m.save, .bool y.m.lets, .bool y.m.waits, .int .i64 y.m.halt, (.slice B3 y.m.ins.length d3), (.slice B4 y.m.outs.length d4), .int .i64 y.m.count] ∧ (∀ oo, wz.frozen? ⟨bm, oo, none⟩ = false)) (fun kk _ => b.ops.length - (intOf kk).toNat)
  case atStart => exact ⟨0, ⟨m, [], false⟩, A3, A4, c3, c4, rfl, by omega, hide rfl, hide rfl, hV, hM, he1, Nat.le_refl _, hBb_1, hFb_1, hBm_1, hFm_1⟩
  case round =>
    obtain ⟨w2, hwr⟩ : ∃ w2 : World, w2 = wr := ⟨_, rfl⟩
    subst hwr
    clear hM hV hBb_1 hFb_1 hBm_1 hFm_1
    obtain ⟨k, y, B3, B4, d3, d4, rfl, hk1, HY, HL, hV, hM, he2, hs2, hBb_2, hFb_2, hBm_2, hFm_2⟩ := hrel
    have hR := hide (show RunAt m y by have := RunAt.to hk hbk.out k hk1 (by rw [HY.out]; exact HL.out); rwa [HY.out] at this)
    have hyl := hide (show y.vals.length = k by have := rTo_vals b m k hk1 (by rw [HY.out]; exact HL.out); rwa [HY.out] at this)
    have hylk : y.vals.length ≤ b.ops.length := by have := hyl.out; omega
    have hpl : (padV b.ops.length y.vals).length ≤ 48 ∧ b.ops.length ≤ (padV b.ops.length y.vals).length := by rw [padV_length hylk]; omega
    by_cases hlt : k < b.ops.length
    · 
      have q1 : decide ((k : Int) < (b.ops.length : Int)) = true := decide_eq_true (by omega)
      have HO := hide (show rTo b m (k + 1) = rOp b y b.ops[k] by rw [rTo_succ b m k hlt, HY.out])
      have hop := ok_ops hbk.out k hlt
      obtain ⟨bb, off, rfl, hbo, hk0, e0, e1, e2, e3, e4⟩ := at_IrOp (hb1.ext he2) hlt
      generalize hgo : b.ops[k] = o at *
      clear hgo
      have z0 : (0 : Int) ≤ (k : Int) := by omega
      have z1 : (k : Int) < (b.ops.length : Int) := by omega
      go_upto_block 1 with fail
      go_cut [] (fun wx => ∃ (n : Int) (M : MchMach) (B5 B6 : Option Addr) (d5 d6 : Nat), Hid (rOp b y o = ⟨M, y.vals ++ [n], false⟩) ∧ FRow wx w0.heap.size 0 (padV b.ops.length (y.vals ++ [n])) ∧ Mach 3 wb.heap.size (w0.heap.size :: w.heap.size :: X) wx g1 o1 c1 g2 o2 c2 (.slice B5 M.ins.length d5) (.slice B6 M.outs.length d6) M ∧ Ext wb wx ∧ w2.heap.size ≤ wx.heap.size ∧ Bx wx (w.heap.size) [.int .i64 b.pc, .int .i64 b.len, (.slice (some ⟨bb, off, none⟩) b.ops.length cb1), .int .i64 b.fin, .int .i64 b.x, .int .i64 b.y, .int .i64 b.k] ∧ (∀ oo, wx.frozen? ⟨w.heap.size, oo, none⟩ = false) ∧ Bx wx bm [(.slice (some ⟨g1, o1, none⟩) 4 c1), .int .i64 M.pc, (.slice (some ⟨g2, o2, none⟩) 64 c2), .int .i64 M.save, .bool M.lets, .bool M.waits, .int .i64 M.halt, (.slice B5 M.ins.length d5), (.slice B6 M.outs.length d6), .int .i64 M.count] ∧ (∀ oo, wx.frozen? ⟨bm, oo, none⟩ = false))
      · 
        have hg1o := hM.lt.1
        have hg2o := hM.lt.2.1
        go_upto_region 5 with fail
        clear e0 e1 e2 e3 e4
        have he3 : Ext wb (w2.alloc (Obj.cells #[.int .i64 o.kind, .int .i64 o.x, .int .i64 o.y, .int .i64 o.k, .int .i64 o.at_] 58)) := Ext.hold he2
        have hs3 : w2.heap.size + 1 ≤ ((w2.alloc (Obj.cells #[.int .i64 o.kind, .int .i64 o.x, .int .i64 o.y, .int .i64 o.k, .int .i64 o.at_] 58))).heap.size := by simp
        have hBb_3 : Bx (w2.alloc (Obj.cells #[.int .i64 o.kind, .int .i64 o.x, .int .i64 o.y, .int .i64 o.k, .int .i64 o.at_] 58)) (w.heap.size) [.int .i64 b.pc, .int .i64 b.len, (.slice (some ⟨bb, off, none⟩) b.ops.length cb1), .int .i64 b.fin, .int .i64 b.x, .int .i64 b.y, .int .i64 b.k] := Bx.hold hBb_2
        have hFb_3 : ∀ oo, (w2.alloc (Obj.cells #[.int .i64 o.kind, .int .i64 o.x, .int .i64 o.y, .int .i64 o.k, .int .i64 o.at_] 58)).frozen? ⟨w.heap.size, oo, none⟩ = false := fz_hold hFb_2
        have hBm_3 : Bx (w2.alloc (Obj.cells #[.int .i64 o.kind, .int .i64 o.x, .int .i64 o.y, .int .i64 o.k, .int .i64 o.at_] 58)) (bm) [(.slice (some ⟨g1, o1, none⟩) 4 c1), .int .i64 y.m.pc, (.slice (some ⟨g2, o2, none⟩) 64 c2), .int .i64 y.m.save, .bool y.m.lets, .bool y.m.waits, .int .i64 y.m.halt, (.slice B3 y.m.ins.length d3), (.slice B4 y.m.outs.length d4), .int .i64 y.m.count] := Bx.hold hBm_2
        have hFm_3 : ∀ oo, (w2.alloc (Obj.cells #[.int .i64 o.kind, .int .i64 o.x, .int .i64 o.y, .int .i64 o.k, .int .i64 o.at_] 58)).frozen? ⟨bm, oo, none⟩ = false := fz_hold hFm_2
        have hBo_3 : Bx (w2.alloc (Obj.cells #[.int .i64 o.kind, .int .i64 o.x, .int .i64 o.y, .int .i64 o.k, .int .i64 o.at_] 58)) (w2.heap.size) [.int .i64 o.kind, .int .i64 o.x, .int .i64 o.y, .int .i64 o.k, .int .i64 o.at_] := Bx.new w2 #[.int .i64 o.kind, .int .i64 o.x, .int .i64 o.y, .int .i64 o.k, .int .i64 o.at_] 58
        have hFo_3 : ∀ oo, (w2.alloc (Obj.cells #[.int .i64 o.kind, .int .i64 o.x, .int .i64 o.y, .int .i64 o.k, .int .i64 o.at_] 58)).frozen? ⟨w2.heap.size, oo, none⟩ = false := fz_new w2 #[.int .i64 o.kind, .int .i64 o.x, .int .i64 o.y, .int .i64 o.k, .int .i64 o.at_] 58 rfl
        have hMq := (Mach.hold hM : Mach _ _ _ (w2.alloc (Obj.cells #[.int .i64 o.kind, .int .i64 o.x, .int .i64 o.y, .int .i64 o.k, .int .i64 o.at_] 58)) _ _ _ _ _ _ _ _ _)
        have hVq := (FRow.hold hV : FRow (w2.alloc (Obj.cells #[.int .i64 o.kind, .int .i64 o.x, .int .i64 o.y, .int .i64 o.k, .int .i64 o.at_] 58)) _ _ _)
        generalize (w2.alloc (Obj.cells #[.int .i64 o.kind, .int .i64 o.x, .int .i64 o.y, .int .i64 o.k, .int .i64 o.at_] 58)) = w3 at *
        clear hBb_2 hFb_2 hBm_2 hFm_2 hM hV
        have hM := hMq
        clear hMq
        have hV := hVq
        clear hVq
        have hx0 := op_x0 hop
        have hy0 := op_y0 hop
        have hkd := op_kind hop
        have hwx := gI_word hR.out.words o.x
        have hwy := gI_word hR.out.words o.y
        have HPy := hide (show y.m.pc = b.pc by rw [hR.out.pc]; exact HP.out)
        have HHy := hide (show y.m.halt = 0 by rw [hR.out.halt]; exact HH.out)
        have hcy : 0 ≤ y.m.count ∧ y.m.count ≤ 1000000 - b.len := by have := hR.out.count; omega
        have hpy : 0 ≤ y.m.pc ∧ y.m.pc ≤ 64 := by have := HPy.out; omega
        have hyk := hR.out.ok
        have hou := hR.out.outs
        go_upto_if 22 with fail
        go_cut [7, 8] (fun v7 v8 wx => v7 = .int .i64 (gI y.vals o.x) ∧ v8 = .int .i64 (gI y.vals o.y) ∧ Ext w3 wx)
        · as_aux_lemma =>
            by_cases hk00 : k = 0
            · 
              have q2 : decide (0 < k) = false := decide_eq_false (by omega)
              have hnil : y.vals = [] := List.eq_nil_of_length_eq_zero (by have := hyl.out; omega)
              have HGx := hide (show gI y.vals o.x = 0 by rw [hnil]; rfl)
              have HGy := hide (show gI y.vals o.y = 0 by rw [hnil]; rfl)
              clear hnil hk00
              (try simp only [q2])
              go_wp2_with fail
              go_meet
              exact ⟨by rw [HGx.out], by rw [HGy.out], Ext.refl _⟩
            · 
              have q2 : decide (0 < k) = true := decide_eq_true (by omega)
              obtain ⟨X0, hX⟩ := Int.eq_ofNat_of_zero_le hx0.1
              obtain ⟨Y0, hY⟩ := Int.eq_ofNat_of_zero_le hy0.1
              have hXl : X0 < (padV b.ops.length y.vals).length := by omega
              have hYl : Y0 < (padV b.ops.length y.vals).length := by omega
              have rX := hV.int0 hXl
              have rY := hV.int0 hYl
              rw [padV_at hylk hXl, ← hX] at rX
              rw [padV_at hylk hYl, ← hY] at rY
              have yv := hV.lt
              have x0 : 0 ≤ o.x := hx0.1
              have x1 : o.x < (b.ops.length : Int) := by omega
              have x2 : o.x.toNat = X0 := by omega
              have y0 : 0 ≤ o.y := hy0.1
              have y1 : o.y < (b.ops.length : Int) := by omega
              have y2 : o.y.toNat = Y0 := by omega
              clear hX hY hk00
              have yo : w2.heap.size < w3.heap.size := by omega
              have xo0 := hBo_3 0 _ rfl
              have xo1 := hBo_3 1 _ rfl
              have xo2 := hBo_3 2 _ rfl
              have xo3 := hBo_3 3 _ rfl
              have xo4 := hBo_3 4 _ rfl
              have fo := hFo_3
              (try simp only [q2])
              go_upto_region 7 with fail
              have hS : ∀ w', Ext w3 w' → ∀ bb oo, bb < w3.heap.size → w'.cell? ⟨bb, oo, none⟩ = w3.cell? ⟨bb, oo, none⟩ := fun w' hx bb oo hb => hx.cell hb
              refine wp_region_plan (fun w' => Ext w3 w') 11 (.float 0 (.float 1 (.float 2 (.float 3 (.float 4 (.float 5 (.float 6 (.float 7 (.float 8 (.float 9 (.float 10 (.tail 11)))))))))))) (by kernel_rfl) (by kernel_rfl) (Ext.refl _).drew ?_
              iterate 11 ((refine Plan.float_step (v := ?_) rfl (by rfl) (fun _ _ _ h => h) (fun w' hSw => ?_) ?_; rotate_left; · (go_simp; try with_reducible rfl)); (try simp only [Act.put, List.setIfInBounds_toArray, List.set_cons_zero, List.set_cons_succ]))
              refine Plan.tail_step ?_
              simp only [List.drop_succ_cons, List.drop_zero]
              clear hS
              go_wp2_with fail
              go_meet
              exact ⟨rfl, rfl, Ext.auto⟩
        obtain ⟨rfl, rfl, hEW⟩ := hcut
        obtain ⟨w4, hwc⟩ : ∃ w4 : World, w4 = wc := ⟨_, rfl⟩
        subst hwc
        have hs4 := hEW.size
        try simp at hs4
        have he4 : Ext wb w4 := Ext.trans (Ext.hold he3) hEW
        have hBb_4 : Bx w4 (w.heap.size) [.int .i64 b.pc, .int .i64 b.len, (.slice (some ⟨bb, off, none⟩) b.ops.length cb1), .int .i64 b.fin, .int .i64 b.x, .int .i64 b.y, .int .i64 b.k] := hEW.bx (Bx.hold hBb_3) (by first | omega | (simp; done) | (simp; omega))
        have hFb_4 : ∀ oo, w4.frozen? ⟨w.heap.size, oo, none⟩ = false := fun oo => (hEW.frozen (by first | omega | (simp; done) | (simp; omega))).trans ((fz_hold hFb_3) oo)
        have hBm_4 : Bx w4 (bm) [(.slice (some ⟨g1, o1, none⟩) 4 c1), .int .i64 y.m.pc, (.slice (some ⟨g2, o2, none⟩) 64 c2), .int .i64 y.m.save, .bool y.m.lets, .bool y.m.waits, .int .i64 y.m.halt, (.slice B3 y.m.ins.length d3), (.slice B4 y.m.outs.length d4), .int .i64 y.m.count] := hEW.bx (Bx.hold hBm_3) (by first | omega | (simp; done) | (simp; omega))
        have hFm_4 : ∀ oo, w4.frozen? ⟨bm, oo, none⟩ = false := fun oo => (hEW.frozen (by first | omega | (simp; done) | (simp; omega))).trans ((fz_hold hFm_3) oo)
        have hBo_4 : Bx w4 (w2.heap.size) [.int .i64 o.kind, .int .i64 o.x, .int .i64 o.y, .int .i64 o.k, .int .i64 o.at_] := hEW.bx (Bx.hold hBo_3) (by first | omega | (simp; done) | (simp; omega))
        have hFo_4 : ∀ oo, w4.frozen? ⟨w2.heap.size, oo, none⟩ = false := fun oo => (hEW.frozen (by first | omega | (simp; done) | (simp; omega))).trans ((fz_hold hFo_3) oo)
        try clear hBb_3 hFb_3 hBm_3 hFm_3 hBo_3 hFo_3
        replace hM := hM.ext hEW
        replace hV := hV.ext hEW
        clear hEW
        have yo : w2.heap.size < w4.heap.size := by omega
        have xo0 := hBo_4 0 _ rfl
        have xo1 := hBo_4 1 _ rfl
        have xo2 := hBo_4 2 _ rfl
        have xo3 := hBo_4 3 _ rfl
        have xo4 := hBo_4 4 _ rfl
        have fo := hFo_4
        go_upto_region 8 with fail
        go_cut [44] (fun v wx => v = .bool ((o.kind == 4 || o.kind == 5) && decide (64 ≤ gI y.vals o.x)) ∧ w4 = wx)
        · cases q4 : (o.kind == 4) <;> cases q5 : (o.kind == 5) <;> cases q6 : decide (64 ≤ gI y.vals o.x)
          all_goals
            go_wp2_with fail
            go_meet
            exact ⟨by simp [q4, q5, q6], rfl⟩
        clear xo0 xo1 xo2 xo3 xo4 yo
        clear fo
        obtain ⟨rfl, hwc⟩ := hcut
        subst hwc
        cases hq44 : ((o.kind == 4 || o.kind == 5) && decide (64 ≤ gI y.vals o.x))
        rotate_left
        · as_aux_lemma =>
            have hbV : bm ≠ w0.heap.size := by omega
            simp only [Bool.and_eq_true, Bool.or_eq_true, beq_iff_eq, decide_eq_true_eq] at hq44
            have hat := op_at hop (by omega)
            have NL_ : rEvent b y.m o (gI y.vals o.x) (gI y.vals o.y) = (rLeave b y.m o.at_ 3, 0, true) := by unfold rEvent; rw [if_neg (by omega), if_neg (by omega), if_pos hq44.2]
            have HLv := hide (show rTo b m (k + 1) = ⟨rLeave b y.m o.at_ 3, y.vals ++ [0], true⟩ by rw [HO.out, rOp_event HL.out (by omega), NL_])
            clear NL_ hq44
            have zw1 : IntKind.i64.wrap (y.m.pc + o.at_) = y.m.pc + o.at_ := by rw [IntKind.wrap_i64]; omega
            have zw2 : IntKind.i64.wrap (y.m.count + o.at_) = y.m.count + o.at_ := by rw [IntKind.wrap_i64]; omega
            have ym : bm < w4.heap.size := by omega
            have xm0 := hBm_4 0 _ rfl
            have xm1 := hBm_4 1 _ rfl
            have xm2 := hBm_4 2 _ rfl
            have xm3 := hBm_4 3 _ rfl
            have xm4 := hBm_4 4 _ rfl
            have xm5 := hBm_4 5 _ rfl
            have xm6 := hBm_4 6 _ rfl
            have xm7 := hBm_4 7 _ rfl
            have xm8 := hBm_4 8 _ rfl
            have xm9 := hBm_4 9 _ rfl
            have fm := hFm_4
            go_upto_region 10 with fail
            clear xm0 xm1 xm2 xm3 xm4 xm5 xm6 xm7 xm8 xm9 ym
            clear fm
            have he5 : Ext wb (w4.setCell ⟨bm, 6, none⟩ (.int .i64 3)) := Ext.hold he4
            have hs5 : w4.heap.size + 0 ≤ ((w4.setCell ⟨bm, 6, none⟩ (.int .i64 3))).heap.size := by simp
            have hBb_5 : Bx (w4.setCell ⟨bm, 6, none⟩ (.int .i64 3)) (w.heap.size) [.int .i64 b.pc, .int .i64 b.len, (.slice (some ⟨bb, off, none⟩) b.ops.length cb1), .int .i64 b.fin, .int .i64 b.x, .int .i64 b.y, .int .i64 b.k] := Bx.hold hBb_4
            have hFb_5 : ∀ oo, (w4.setCell ⟨bm, 6, none⟩ (.int .i64 3)).frozen? ⟨w.heap.size, oo, none⟩ = false := fz_hold hFb_4
            have hBm_5 : Bx (w4.setCell ⟨bm, 6, none⟩ (.int .i64 3)) (bm) [(.slice (some ⟨g1, o1, none⟩) 4 c1), .int .i64 y.m.pc, (.slice (some ⟨g2, o2, none⟩) 64 c2), .int .i64 y.m.save, .bool y.m.lets, .bool y.m.waits, .int .i64 3, (.slice B3 y.m.ins.length d3), (.slice B4 y.m.outs.length d4), .int .i64 y.m.count] := (by have := (Bx.put hBm_4 (j := 6) (by simp) (.int .i64 3)); simpa using this)
            have hFm_5 : ∀ oo, (w4.setCell ⟨bm, 6, none⟩ (.int .i64 3)).frozen? ⟨bm, oo, none⟩ = false := fz_hold hFm_4
            have hBo_5 : Bx (w4.setCell ⟨bm, 6, none⟩ (.int .i64 3)) (w2.heap.size) [.int .i64 o.kind, .int .i64 o.x, .int .i64 o.y, .int .i64 o.k, .int .i64 o.at_] := Bx.hold hBo_4
            have hFo_5 : ∀ oo, (w4.setCell ⟨bm, 6, none⟩ (.int .i64 3)).frozen? ⟨w2.heap.size, oo, none⟩ = false := fz_hold hFo_4
            have hMq := (hM.far hbX (p := ⟨bm, 6, none⟩) _ : Mach _ _ _ (w4.setCell ⟨bm, 6, none⟩ (.int .i64 3)) _ _ _ _ _ _ _ _ _)
            have hVq := (hV.far (p := ⟨bm, 6, none⟩) hbV _ : FRow (w4.setCell ⟨bm, 6, none⟩ (.int .i64 3)) _ _ _)
            generalize (w4.setCell ⟨bm, 6, none⟩ (.int .i64 3)) = w5 at *
            clear hBb_4 hFb_4 hBm_4 hFm_4 hBo_4 hFo_4 hM hV
            have hM := hMq
            clear hMq
            have hV := hVq
            clear hVq
            have ym : bm < w5.heap.size := by omega
            have xm0 := hBm_5 0 _ rfl
            have xm1 := hBm_5 1 _ rfl
            have xm2 := hBm_5 2 _ rfl
            have xm3 := hBm_5 3 _ rfl
            have xm4 := hBm_5 4 _ rfl
            have xm5 := hBm_5 5 _ rfl
            have xm6 := hBm_5 6 _ rfl
            have xm7 := hBm_5 7 _ rfl
            have xm8 := hBm_5 8 _ rfl
            have xm9 := hBm_5 9 _ rfl
            have fm := hFm_5
            have yo : w2.heap.size < w5.heap.size := by omega
            have xo0 := hBo_5 0 _ rfl
            have xo1 := hBo_5 1 _ rfl
            have xo2 := hBo_5 2 _ rfl
            have xo3 := hBo_5 3 _ rfl
            have xo4 := hBo_5 4 _ rfl
            have fo := hFo_5
            go_upto_region 10 with fail
            have hS : ∀ w', Ext w5 w' → ∀ bb oo, bb < w5.heap.size → w'.cell? ⟨bb, oo, none⟩ = w5.cell? ⟨bb, oo, none⟩ := fun w' hx bb oo hb => hx.cell hb
            refine wp_region_plan (fun w' => Ext w5 w') 6 (.float 0 (.float 1 (.float 2 (.float 3 (.float 4 (.float 5 (.tail 6))))))) (by kernel_rfl) (by kernel_rfl) (Ext.refl _).drew ?_
            iterate 6 ((refine Plan.float_step (v := ?_) rfl (by rfl) (fun _ _ _ h => h) (fun w' hSw => ?_) ?_; rotate_left; · (go_simp; try with_reducible rfl)); (try simp only [Act.put, List.setIfInBounds_toArray, List.set_cons_zero, List.set_cons_succ]))
            refine Plan.tail_step ?_
            simp only [List.drop_succ_cons, List.drop_zero]
            clear hS
            go_upto_region 11 with fail
            clear xm0 xm1 xm2 xm3 xm4 xm5 xm6 xm7 xm8 xm9 ym
            clear fm
            clear xo0 xo1 xo2 xo3 xo4 yo
            clear fo
            have he6 : Ext wb (World.drew (w5.setCell ⟨bm, 1, none⟩ (.int .i64 (y.m.pc + o.at_)))) := Ext.hold he5
            have hs6 : w5.heap.size + 0 ≤ ((World.drew (w5.setCell ⟨bm, 1, none⟩ (.int .i64 (y.m.pc + o.at_))))).heap.size := by simp
            have hBb_6 : Bx (World.drew (w5.setCell ⟨bm, 1, none⟩ (.int .i64 (y.m.pc + o.at_)))) (w.heap.size) [.int .i64 b.pc, .int .i64 b.len, (.slice (some ⟨bb, off, none⟩) b.ops.length cb1), .int .i64 b.fin, .int .i64 b.x, .int .i64 b.y, .int .i64 b.k] := Bx.hold hBb_5
            have hFb_6 : ∀ oo, (World.drew (w5.setCell ⟨bm, 1, none⟩ (.int .i64 (y.m.pc + o.at_)))).frozen? ⟨w.heap.size, oo, none⟩ = false := fz_hold hFb_5
            have hBm_6 : Bx (World.drew (w5.setCell ⟨bm, 1, none⟩ (.int .i64 (y.m.pc + o.at_)))) (bm) [(.slice (some ⟨g1, o1, none⟩) 4 c1), .int .i64 (y.m.pc + o.at_), (.slice (some ⟨g2, o2, none⟩) 64 c2), .int .i64 y.m.save, .bool y.m.lets, .bool y.m.waits, .int .i64 3, (.slice B3 y.m.ins.length d3), (.slice B4 y.m.outs.length d4), .int .i64 y.m.count] := Bx.drew (by have := (Bx.put hBm_5 (j := 1) (by simp) (.int .i64 (y.m.pc + o.at_))); simpa using this)
            have hFm_6 : ∀ oo, (World.drew (w5.setCell ⟨bm, 1, none⟩ (.int .i64 (y.m.pc + o.at_)))).frozen? ⟨bm, oo, none⟩ = false := fz_hold hFm_5
            have hBo_6 : Bx (World.drew (w5.setCell ⟨bm, 1, none⟩ (.int .i64 (y.m.pc + o.at_)))) (w2.heap.size) [.int .i64 o.kind, .int .i64 o.x, .int .i64 o.y, .int .i64 o.k, .int .i64 o.at_] := Bx.hold hBo_5
            have hFo_6 : ∀ oo, (World.drew (w5.setCell ⟨bm, 1, none⟩ (.int .i64 (y.m.pc + o.at_)))).frozen? ⟨w2.heap.size, oo, none⟩ = false := fz_hold hFo_5
            have hMq := ((hM.far hbX (p := ⟨bm, 1, none⟩) _).drew : Mach _ _ _ (World.drew (w5.setCell ⟨bm, 1, none⟩ (.int .i64 (y.m.pc + o.at_)))) _ _ _ _ _ _ _ _ _)
            have hVq := ((hV.far (p := ⟨bm, 1, none⟩) hbV _).drew : FRow (World.drew (w5.setCell ⟨bm, 1, none⟩ (.int .i64 (y.m.pc + o.at_)))) _ _ _)
            generalize (World.drew (w5.setCell ⟨bm, 1, none⟩ (.int .i64 (y.m.pc + o.at_)))) = w6 at *
            clear hBb_5 hFb_5 hBm_5 hFm_5 hBo_5 hFo_5 hM hV
            have hM := hMq
            clear hMq
            have hV := hVq
            clear hVq
            have ym : bm < w6.heap.size := by omega
            have xm0 := hBm_6 0 _ rfl
            have xm1 := hBm_6 1 _ rfl
            have xm2 := hBm_6 2 _ rfl
            have xm3 := hBm_6 3 _ rfl
            have xm4 := hBm_6 4 _ rfl
            have xm5 := hBm_6 5 _ rfl
            have xm6 := hBm_6 6 _ rfl
            have xm7 := hBm_6 7 _ rfl
            have xm8 := hBm_6 8 _ rfl
            have xm9 := hBm_6 9 _ rfl
            have fm := hFm_6
            have yo : w2.heap.size < w6.heap.size := by omega
            have xo0 := hBo_6 0 _ rfl
            have xo1 := hBo_6 1 _ rfl
            have xo2 := hBo_6 2 _ rfl
            have xo3 := hBo_6 3 _ rfl
            have xo4 := hBo_6 4 _ rfl
            have fo := hFo_6
            go_upto_region 11 with fail
            have hS : ∀ w', Ext w6 w' → ∀ bb oo, bb < w6.heap.size → w'.cell? ⟨bb, oo, none⟩ = w6.cell? ⟨bb, oo, none⟩ := fun w' hx bb oo hb => hx.cell hb
            refine wp_region_plan (fun w' => Ext w6 w') 6 (.float 0 (.float 1 (.float 2 (.float 3 (.float 4 (.float 5 (.tail 6))))))) (by kernel_rfl) (by kernel_rfl) (Ext.refl _).drew ?_
            iterate 6 ((refine Plan.float_step (v := ?_) rfl (by rfl) (fun _ _ _ h => h) (fun w' hSw => ?_) ?_; rotate_left; · (go_simp; try with_reducible rfl)); (try simp only [Act.put, List.setIfInBounds_toArray, List.set_cons_zero, List.set_cons_succ]))
            refine Plan.tail_step ?_
            simp only [List.drop_succ_cons, List.drop_zero]
            clear hS
            go_wp2_with fail
            clear xm0 xm1 xm2 xm3 xm4 xm5 xm6 xm7 xm8 xm9 ym
            clear fm
            clear xo0 xo1 xo2 xo3 xo4 yo
            clear fo
            have he7 : Ext wb (World.drew (w6.setCell ⟨bm, 9, none⟩ (.int .i64 (y.m.count + o.at_)))) := Ext.hold he6
            have hs7 : w6.heap.size + 0 ≤ ((World.drew (w6.setCell ⟨bm, 9, none⟩ (.int .i64 (y.m.count + o.at_))))).heap.size := by simp
            have hBb_7 : Bx (World.drew (w6.setCell ⟨bm, 9, none⟩ (.int .i64 (y.m.count + o.at_)))) (w.heap.size) [.int .i64 b.pc, .int .i64 b.len, (.slice (some ⟨bb, off, none⟩) b.ops.length cb1), .int .i64 b.fin, .int .i64 b.x, .int .i64 b.y, .int .i64 b.k] := Bx.hold hBb_6
            have hFb_7 : ∀ oo, (World.drew (w6.setCell ⟨bm, 9, none⟩ (.int .i64 (y.m.count + o.at_)))).frozen? ⟨w.heap.size, oo, none⟩ = false := fz_hold hFb_6
            have hBm_7 : Bx (World.drew (w6.setCell ⟨bm, 9, none⟩ (.int .i64 (y.m.count + o.at_)))) (bm) [(.slice (some ⟨g1, o1, none⟩) 4 c1), .int .i64 (y.m.pc + o.at_), (.slice (some ⟨g2, o2, none⟩) 64 c2), .int .i64 y.m.save, .bool y.m.lets, .bool y.m.waits, .int .i64 3, (.slice B3 y.m.ins.length d3), (.slice B4 y.m.outs.length d4), .int .i64 (y.m.count + o.at_)] := Bx.drew (by have := (Bx.put hBm_6 (j := 9) (by simp) (.int .i64 (y.m.count + o.at_))); simpa using this)
            have hFm_7 : ∀ oo, (World.drew (w6.setCell ⟨bm, 9, none⟩ (.int .i64 (y.m.count + o.at_)))).frozen? ⟨bm, oo, none⟩ = false := fz_hold hFm_6
            have hBo_7 : Bx (World.drew (w6.setCell ⟨bm, 9, none⟩ (.int .i64 (y.m.count + o.at_)))) (w2.heap.size) [.int .i64 o.kind, .int .i64 o.x, .int .i64 o.y, .int .i64 o.k, .int .i64 o.at_] := Bx.hold hBo_6
            have hFo_7 : ∀ oo, (World.drew (w6.setCell ⟨bm, 9, none⟩ (.int .i64 (y.m.count + o.at_)))).frozen? ⟨w2.heap.size, oo, none⟩ = false := fz_hold hFo_6
            have hMq := ((hM.far hbX (p := ⟨bm, 9, none⟩) _).drew : Mach _ _ _ (World.drew (w6.setCell ⟨bm, 9, none⟩ (.int .i64 (y.m.count + o.at_)))) _ _ _ _ _ _ _ _ _)
            have hVq := ((hV.far (p := ⟨bm, 9, none⟩) hbV _).drew : FRow (World.drew (w6.setCell ⟨bm, 9, none⟩ (.int .i64 (y.m.count + o.at_)))) _ _ _)
            generalize (World.drew (w6.setCell ⟨bm, 9, none⟩ (.int .i64 (y.m.count + o.at_)))) = w7 at *
            clear hBb_6 hFb_6 hBm_6 hFm_6 hBo_6 hFo_6 hM hV
            have hM := hMq
            clear hMq
            have hV := hVq
            clear hVq
            have HVz := hide (show rEnd b (rTo b m b.ops.length) = (rLeave b y.m o.at_ 3) by rw [rTo_left b m (k + 1) (by omega) (by rw [HLv.out]), HLv.out]; rfl)
            (try simp only [Exit.inBlock, Exit.then])
            refine bodyPost_ret (results_none rfl _ _ _) rfl ?_
            rw [HVz.out]
            exact ⟨rfl, (.slice B3 y.m.ins.length d3), (.slice B4 y.m.outs.length d4), by simpa [rLeave, MchMach.setM, HPy.out, HHy.out] using hBm_7, hFm_7, (hM.same (m' := (rLeave b y.m o.at_ 3)) rfl rfl rfl rfl).dropX.dropX, he7, by omega⟩
        have hbV : bm ≠ w0.heap.size := by omega
        have h64 : o.kind = 4 ∨ o.kind = 5 → gI y.vals o.x < 64 := fun hc => by
          simp only [Bool.and_eq_false_iff, Bool.or_eq_false_iff, beq_eq_false_iff_ne, decide_eq_false_iff_not] at hq44
          omega
        clear hq44
        have yo : w2.heap.size < w4.heap.size := by omega
        have xo0 := hBo_4 0 _ rfl
        have xo1 := hBo_4 1 _ rfl
        have xo2 := hBo_4 2 _ rfl
        have xo3 := hBo_4 3 _ rfl
        have xo4 := hBo_4 4 _ rfl
        have fo := hFo_4
        go_upto_block 2 with fail
        clear xo0 xo1 xo2 xo3 xo4 yo
        clear fo
        have hkl : k < (padV b.ops.length y.vals).length := by omega
        have hfzV := hV.fz
        have yv := hV.lt
        have hkt : ((k : Int)).toNat = k := by omega
        have rk := hV.int0 hkl
        have ho1_ : w2.heap.size ≠ g1 := by omega
        have ho2_ : w2.heap.size ≠ g2 := by omega
        have hlo1 := hM.lt.2.2.1
        have hlo2 := hM.lt.2.2.2.1
        have hlt1 := hM.lt.1
        have hlt2 := hM.lt.2.1
        have hap := hM.apart (x := w0.heap.size) (by simp)
        have hapb := hM.apart hbX
        have hapB := hM.apart (x := w.heap.size) (by simp)
        have hv1 : w0.heap.size ≠ g1 := fun e => hap.2.2 (by rw [e]; simp [mfoot])
        have hv2 : w0.heap.size ≠ g2 := fun e => hap.2.2 (by rw [e]; simp [mfoot])
        have hm1_ : bm ≠ g1 := fun e => hapb.2.2 (by rw [e]; simp [mfoot])
        have hm2_ : bm ≠ g2 := fun e => hapb.2.2 (by rw [e]; simp [mfoot])
        have hb1_ : w.heap.size ≠ g1 := fun e => hapB.2.2 (by rw [e]; simp [mfoot])
        have hb2_ : w.heap.size ≠ g2 := fun e => hapB.2.2 (by rw [e]; simp [mfoot])
        have hkc : o.kind = 1 ∨ o.kind = 2 ∨ o.kind = 3 ∨ o.kind = 4 ∨ o.kind = 5 ∨ o.kind = 6 ∨ o.kind = 7 ∨ o.kind = 8 := by omega
        rcases hkc with e | e | e | e | e | e | e | e
        · as_aux_lemma =>
            have q1 : (o.kind == 1) = true := by rw [e]; rfl
            have q2 : (o.kind == 2) = false := by rw [e]; rfl
            have q3 : (o.kind == 3) = false := by rw [e]; rfl
            have q4 : (o.kind == 4) = false := by rw [e]; rfl
            have q5 : (o.kind == 5) = false := by rw [e]; rfl
            have q6 : (o.kind == 6) = false := by rw [e]; rfl
            have q7 : (o.kind == 7) = false := by rw [e]; rfl
            have q8 : (o.kind == 8) = false := by rw [e]; rfl
            have hck := wordB_iff.1 (op_c hop e)
            have HR1 := hide (show rOp b y o = ⟨y.m, y.vals ++ [o.k], false⟩ by rw [rOp_word HL.out (by omega)]; unfold rWord; rw [if_pos e])
            clear e
            have yo : w2.heap.size < w4.heap.size := by omega
            have xo0 := hBo_4 0 _ rfl
            have xo1 := hBo_4 1 _ rfl
            have xo2 := hBo_4 2 _ rfl
            have xo3 := hBo_4 3 _ rfl
            have xo4 := hBo_4 4 _ rfl
            have fo := hFo_4
            go_wp2_with fail
            clear xo0 xo1 xo2 xo3 xo4 yo
            clear fo
            have hVs := hV.setInt0 hkl o.k (by unfold Fits; omega)
            rw [padV_set hyl.out hlt] at hVs
            have he5 : Ext wb (w4.setCell ⟨w0.heap.size, k, none⟩ (.int .i64 o.k)) := Ext.hold he4
            have hs5 : w4.heap.size + 0 ≤ ((w4.setCell ⟨w0.heap.size, k, none⟩ (.int .i64 o.k))).heap.size := by simp
            have hBb_5 : Bx (w4.setCell ⟨w0.heap.size, k, none⟩ (.int .i64 o.k)) (w.heap.size) [.int .i64 b.pc, .int .i64 b.len, (.slice (some ⟨bb, off, none⟩) b.ops.length cb1), .int .i64 b.fin, .int .i64 b.x, .int .i64 b.y, .int .i64 b.k] := Bx.hold hBb_4
            have hFb_5 : ∀ oo, (w4.setCell ⟨w0.heap.size, k, none⟩ (.int .i64 o.k)).frozen? ⟨w.heap.size, oo, none⟩ = false := fz_hold hFb_4
            have hBm_5 : Bx (w4.setCell ⟨w0.heap.size, k, none⟩ (.int .i64 o.k)) (bm) [(.slice (some ⟨g1, o1, none⟩) 4 c1), .int .i64 y.m.pc, (.slice (some ⟨g2, o2, none⟩) 64 c2), .int .i64 y.m.save, .bool y.m.lets, .bool y.m.waits, .int .i64 y.m.halt, (.slice B3 y.m.ins.length d3), (.slice B4 y.m.outs.length d4), .int .i64 y.m.count] := Bx.hold hBm_4
            have hFm_5 : ∀ oo, (w4.setCell ⟨w0.heap.size, k, none⟩ (.int .i64 o.k)).frozen? ⟨bm, oo, none⟩ = false := fz_hold hFm_4
            have hBo_5 : Bx (w4.setCell ⟨w0.heap.size, k, none⟩ (.int .i64 o.k)) (w2.heap.size) [.int .i64 o.kind, .int .i64 o.x, .int .i64 o.y, .int .i64 o.k, .int .i64 o.at_] := Bx.hold hBo_4
            have hFo_5 : ∀ oo, (w4.setCell ⟨w0.heap.size, k, none⟩ (.int .i64 o.k)).frozen? ⟨w2.heap.size, oo, none⟩ = false := fz_hold hFo_4
            have hMq := (hM.far (by simp) _ : Mach _ _ _ (w4.setCell ⟨w0.heap.size, k, none⟩ (.int .i64 o.k)) _ _ _ _ _ _ _ _ _)
            have hVq := (hVs : FRow (w4.setCell ⟨w0.heap.size, k, none⟩ (.int .i64 o.k)) _ _ _)
            generalize (w4.setCell ⟨w0.heap.size, k, none⟩ (.int .i64 o.k)) = w5 at *
            clear hBb_4 hFb_4 hBm_4 hFm_4 hBo_4 hFo_4 hM hV
            have hM := hMq
            clear hMq
            have hV := hVq
            clear hVq
            go_meet
            exact ⟨o.k, y.m, B3, B4, d3, d4, HR1, hV, hM, he5, by omega, hBb_5, hFb_5, hBm_5, hFm_5⟩
        · as_aux_lemma =>
            have q1 : (o.kind == 1) = false := by rw [e]; rfl
            have q2 : (o.kind == 2) = true := by rw [e]; rfl
            have q3 : (o.kind == 3) = false := by rw [e]; rfl
            have q4 : (o.kind == 4) = false := by rw [e]; rfl
            have q5 : (o.kind == 5) = false := by rw [e]; rfl
            have q6 : (o.kind == 6) = false := by rw [e]; rfl
            have q7 : (o.kind == 7) = false := by rw [e]; rfl
            have q8 : (o.kind == 8) = false := by rw [e]; rfl
            have hr := op_r hop (.inl e)
            obtain ⟨K, hK⟩ := Int.eq_ofNat_of_zero_le hr.1
            have hKl : K < 4 := by omega
            have k0 : 0 ≤ o.k := hr.1
            have k1 : o.k < 4 := by omega
            have k2 : o.k.toNat = K := by omega
            have hfz1 := hM.fz1
            have rK := hM.regAt hKl
            rw [← hK] at rK
            have hrw := reg_word hyk o.k
            have HR1 := hide (show rOp b y o = ⟨y.m, y.vals ++ [y.m.reg o.k], false⟩ by rw [rOp_word HL.out (by omega)]; unfold rWord; rw [if_neg (by omega), if_pos e])
            clear e hK hr
            have yo : w2.heap.size < w4.heap.size := by omega
            have xo0 := hBo_4 0 _ rfl
            have xo1 := hBo_4 1 _ rfl
            have xo2 := hBo_4 2 _ rfl
            have xo3 := hBo_4 3 _ rfl
            have xo4 := hBo_4 4 _ rfl
            have fo := hFo_4
            have ym : bm < w4.heap.size := by omega
            have xm0 := hBm_4 0 _ rfl
            have xm1 := hBm_4 1 _ rfl
            have xm2 := hBm_4 2 _ rfl
            have xm3 := hBm_4 3 _ rfl
            have xm4 := hBm_4 4 _ rfl
            have xm5 := hBm_4 5 _ rfl
            have xm6 := hBm_4 6 _ rfl
            have xm7 := hBm_4 7 _ rfl
            have xm8 := hBm_4 8 _ rfl
            have xm9 := hBm_4 9 _ rfl
            have fm := hFm_4
            go_upto_region 16 with fail
            have hS : ∀ w', Ext w4 w' → ∀ bb oo, bb < w4.heap.size → w'.cell? ⟨bb, oo, none⟩ = w4.cell? ⟨bb, oo, none⟩ := fun w' hx bb oo hb => hx.cell hb
            refine wp_region_plan (fun w' => Ext w4 w') 10 (.float 0 (.float 1 (.float 2 (.float 3 (.float 4 (.float 5 (.float 6 (.float 7 (.float 8 (.float 9 (.tail 10))))))))))) (by kernel_rfl) (by kernel_rfl) (Ext.refl _).drew ?_
            iterate 10 ((refine Plan.float_step (v := ?_) rfl (by rfl) (fun _ _ _ h => h) (fun w' hSw => ?_) ?_; rotate_left; · (go_simp; try with_reducible rfl)); (try simp only [Act.put, List.setIfInBounds_toArray, List.set_cons_zero, List.set_cons_succ]))
            refine Plan.tail_step ?_
            simp only [List.drop_succ_cons, List.drop_zero]
            clear hS
            go_wp2_with fail
            clear xo0 xo1 xo2 xo3 xo4 yo
            clear fo
            clear xm0 xm1 xm2 xm3 xm4 xm5 xm6 xm7 xm8 xm9 ym
            clear fm
            have hVs := hV.setInt0 hkl (y.m.reg o.k) (by unfold Fits; omega)
            rw [padV_set hyl.out hlt] at hVs
            have he5 : Ext wb (World.drew (w4.setCell ⟨w0.heap.size, k, none⟩ (.int .i64 (y.m.reg o.k)))) := Ext.hold he4
            have hs5 : w4.heap.size + 0 ≤ ((World.drew (w4.setCell ⟨w0.heap.size, k, none⟩ (.int .i64 (y.m.reg o.k))))).heap.size := by simp
            have hBb_5 : Bx (World.drew (w4.setCell ⟨w0.heap.size, k, none⟩ (.int .i64 (y.m.reg o.k)))) (w.heap.size) [.int .i64 b.pc, .int .i64 b.len, (.slice (some ⟨bb, off, none⟩) b.ops.length cb1), .int .i64 b.fin, .int .i64 b.x, .int .i64 b.y, .int .i64 b.k] := Bx.hold hBb_4
            have hFb_5 : ∀ oo, (World.drew (w4.setCell ⟨w0.heap.size, k, none⟩ (.int .i64 (y.m.reg o.k)))).frozen? ⟨w.heap.size, oo, none⟩ = false := fz_hold hFb_4
            have hBm_5 : Bx (World.drew (w4.setCell ⟨w0.heap.size, k, none⟩ (.int .i64 (y.m.reg o.k)))) (bm) [(.slice (some ⟨g1, o1, none⟩) 4 c1), .int .i64 y.m.pc, (.slice (some ⟨g2, o2, none⟩) 64 c2), .int .i64 y.m.save, .bool y.m.lets, .bool y.m.waits, .int .i64 y.m.halt, (.slice B3 y.m.ins.length d3), (.slice B4 y.m.outs.length d4), .int .i64 y.m.count] := Bx.hold hBm_4
            have hFm_5 : ∀ oo, (World.drew (w4.setCell ⟨w0.heap.size, k, none⟩ (.int .i64 (y.m.reg o.k)))).frozen? ⟨bm, oo, none⟩ = false := fz_hold hFm_4
            have hBo_5 : Bx (World.drew (w4.setCell ⟨w0.heap.size, k, none⟩ (.int .i64 (y.m.reg o.k)))) (w2.heap.size) [.int .i64 o.kind, .int .i64 o.x, .int .i64 o.y, .int .i64 o.k, .int .i64 o.at_] := Bx.hold hBo_4
            have hFo_5 : ∀ oo, (World.drew (w4.setCell ⟨w0.heap.size, k, none⟩ (.int .i64 (y.m.reg o.k)))).frozen? ⟨w2.heap.size, oo, none⟩ = false := fz_hold hFo_4
            have hMq := ((hM.far (by simp) _).drew : Mach _ _ _ (World.drew (w4.setCell ⟨w0.heap.size, k, none⟩ (.int .i64 (y.m.reg o.k)))) _ _ _ _ _ _ _ _ _)
            have hVq := (hVs.drew : FRow (World.drew (w4.setCell ⟨w0.heap.size, k, none⟩ (.int .i64 (y.m.reg o.k)))) _ _ _)
            generalize (World.drew (w4.setCell ⟨w0.heap.size, k, none⟩ (.int .i64 (y.m.reg o.k)))) = w5 at *
            clear hBb_4 hFb_4 hBm_4 hFm_4 hBo_4 hFo_4 hM hV
            have hM := hMq
            clear hMq
            have hV := hVq
            clear hVq
            go_meet
            exact ⟨(y.m.reg o.k), y.m, B3, B4, d3, d4, HR1, hV, hM, he5, by omega, hBb_5, hFb_5, hBm_5, hFm_5⟩
        · as_aux_lemma =>
            have q1 : (o.kind == 1) = false := by rw [e]; rfl
            have q2 : (o.kind == 2) = false := by rw [e]; rfl
            have q3 : (o.kind == 3) = true := by rw [e]; rfl
            have q4 : (o.kind == 4) = false := by rw [e]; rfl
            have q5 : (o.kind == 5) = false := by rw [e]; rfl
            have q6 : (o.kind == 6) = false := by rw [e]; rfl
            have q7 : (o.kind == 7) = false := by rw [e]; rfl
            have q8 : (o.kind == 8) = false := by rw [e]; rfl
            have hd := op_d hop e
            have hww := wordB_iff.1 (wrdDo_word o.k (gI y.vals o.x) (gI y.vals o.y))
            have HR1 := hide (show rOp b y o = ⟨y.m, y.vals ++ [wrdDo o.k (gI y.vals o.x) (gI y.vals o.y)], false⟩ by rw [rOp_word HL.out (by omega)]; unfold rWord; rw [if_neg (by omega), if_neg (by omega), if_pos e])
            clear e
            have yo : w2.heap.size < w4.heap.size := by omega
            have xo0 := hBo_4 0 _ rfl
            have xo1 := hBo_4 1 _ rfl
            have xo2 := hBo_4 2 _ rfl
            have xo3 := hBo_4 3 _ rfl
            have xo4 := hBo_4 4 _ rfl
            have fo := hFo_4
            go_wp2_with fail
            refine (implWrdDo_any o.k _ _ _ ⟨by omega, by omega⟩ (wordB_yes hwx.1 hwx.2) (wordB_yes hwy.1 hwy.2)).mono ?_
            rintro e w' ⟨rfl, rfl⟩
            go_wp2_with fail
            clear xo0 xo1 xo2 xo3 xo4 yo
            clear fo
            have hVs := hV.setInt0 hkl (wrdDo o.k (gI y.vals o.x) (gI y.vals o.y)) (by unfold Fits; omega)
            rw [padV_set hyl.out hlt] at hVs
            have he5 : Ext wb (w4.setCell ⟨w0.heap.size, k, none⟩ (.int .i64 (wrdDo o.k (gI y.vals o.x) (gI y.vals o.y)))) := Ext.hold he4
            have hs5 : w4.heap.size + 0 ≤ ((w4.setCell ⟨w0.heap.size, k, none⟩ (.int .i64 (wrdDo o.k (gI y.vals o.x) (gI y.vals o.y))))).heap.size := by simp
            have hBb_5 : Bx (w4.setCell ⟨w0.heap.size, k, none⟩ (.int .i64 (wrdDo o.k (gI y.vals o.x) (gI y.vals o.y)))) (w.heap.size) [.int .i64 b.pc, .int .i64 b.len, (.slice (some ⟨bb, off, none⟩) b.ops.length cb1), .int .i64 b.fin, .int .i64 b.x, .int .i64 b.y, .int .i64 b.k] := Bx.hold hBb_4
            have hFb_5 : ∀ oo, (w4.setCell ⟨w0.heap.size, k, none⟩ (.int .i64 (wrdDo o.k (gI y.vals o.x) (gI y.vals o.y)))).frozen? ⟨w.heap.size, oo, none⟩ = false := fz_hold hFb_4
            have hBm_5 : Bx (w4.setCell ⟨w0.heap.size, k, none⟩ (.int .i64 (wrdDo o.k (gI y.vals o.x) (gI y.vals o.y)))) (bm) [(.slice (some ⟨g1, o1, none⟩) 4 c1), .int .i64 y.m.pc, (.slice (some ⟨g2, o2, none⟩) 64 c2), .int .i64 y.m.save, .bool y.m.lets, .bool y.m.waits, .int .i64 y.m.halt, (.slice B3 y.m.ins.length d3), (.slice B4 y.m.outs.length d4), .int .i64 y.m.count] := Bx.hold hBm_4
            have hFm_5 : ∀ oo, (w4.setCell ⟨w0.heap.size, k, none⟩ (.int .i64 (wrdDo o.k (gI y.vals o.x) (gI y.vals o.y)))).frozen? ⟨bm, oo, none⟩ = false := fz_hold hFm_4
            have hBo_5 : Bx (w4.setCell ⟨w0.heap.size, k, none⟩ (.int .i64 (wrdDo o.k (gI y.vals o.x) (gI y.vals o.y)))) (w2.heap.size) [.int .i64 o.kind, .int .i64 o.x, .int .i64 o.y, .int .i64 o.k, .int .i64 o.at_] := Bx.hold hBo_4
            have hFo_5 : ∀ oo, (w4.setCell ⟨w0.heap.size, k, none⟩ (.int .i64 (wrdDo o.k (gI y.vals o.x) (gI y.vals o.y)))).frozen? ⟨w2.heap.size, oo, none⟩ = false := fz_hold hFo_4
            have hMq := (hM.far (by simp) _ : Mach _ _ _ (w4.setCell ⟨w0.heap.size, k, none⟩ (.int .i64 (wrdDo o.k (gI y.vals o.x) (gI y.vals o.y)))) _ _ _ _ _ _ _ _ _)
            have hVq := (hVs : FRow (w4.setCell ⟨w0.heap.size, k, none⟩ (.int .i64 (wrdDo o.k (gI y.vals o.x) (gI y.vals o.y)))) _ _ _)
            generalize (w4.setCell ⟨w0.heap.size, k, none⟩ (.int .i64 (wrdDo o.k (gI y.vals o.x) (gI y.vals o.y)))) = w5 at *
            clear hBb_4 hFb_4 hBm_4 hFm_4 hBo_4 hFo_4 hM hV
            have hM := hMq
            clear hMq
            have hV := hVq
            clear hVq
            go_meet
            exact ⟨(wrdDo o.k (gI y.vals o.x) (gI y.vals o.y)), y.m, B3, B4, d3, d4, HR1, hV, hM, he5, by omega, hBb_5, hFb_5, hBm_5, hFm_5⟩
        · as_aux_lemma =>
            have q1 : (o.kind == 1) = false := by rw [e]; rfl
            have q2 : (o.kind == 2) = false := by rw [e]; rfl
            have q3 : (o.kind == 3) = false := by rw [e]; rfl
            have q4 : (o.kind == 4) = true := by rw [e]; rfl
            have q5 : (o.kind == 5) = false := by rw [e]; rfl
            have q6 : (o.kind == 6) = false := by rw [e]; rfl
            have q7 : (o.kind == 7) = false := by rw [e]; rfl
            have q8 : (o.kind == 8) = false := by rw [e]; rfl
            have hx6 := h64 (by omega)
            obtain ⟨Q, hQ⟩ := Int.eq_ofNat_of_zero_le hwx.1
            have hQ6 : Q < 64 := by omega
            have rQ := hM.memAt hQ6
            rw [← hQ] at rQ
            have hfz2 := hM.fz2
            have x0 : 0 ≤ gI y.vals o.x := hwx.1
            have x1 : gI y.vals o.x < 64 := hx6
            have x2 : (gI y.vals o.x).toNat = Q := by omega
            have hmw := mem_word hyk (gI y.vals o.x)
            have HR1 := hide (show rOp b y o = ⟨y.m, y.vals ++ [y.m.word (gI y.vals o.x)], false⟩ by rw [rOp_event HL.out (by omega)]; unfold rEvent; rw [if_neg (by omega), if_neg (by omega), if_neg (by omega), if_pos e])
            clear e hQ
            have yo : w2.heap.size < w4.heap.size := by omega
            have xo0 := hBo_4 0 _ rfl
            have xo1 := hBo_4 1 _ rfl
            have xo2 := hBo_4 2 _ rfl
            have xo3 := hBo_4 3 _ rfl
            have xo4 := hBo_4 4 _ rfl
            have fo := hFo_4
            have ym : bm < w4.heap.size := by omega
            have xm0 := hBm_4 0 _ rfl
            have xm1 := hBm_4 1 _ rfl
            have xm2 := hBm_4 2 _ rfl
            have xm3 := hBm_4 3 _ rfl
            have xm4 := hBm_4 4 _ rfl
            have xm5 := hBm_4 5 _ rfl
            have xm6 := hBm_4 6 _ rfl
            have xm7 := hBm_4 7 _ rfl
            have xm8 := hBm_4 8 _ rfl
            have xm9 := hBm_4 9 _ rfl
            have fm := hFm_4
            go_wp2_with fail
            clear xo0 xo1 xo2 xo3 xo4 yo
            clear fo
            clear xm0 xm1 xm2 xm3 xm4 xm5 xm6 xm7 xm8 xm9 ym
            clear fm
            have hVs := hV.setInt0 hkl (y.m.word (gI y.vals o.x)) (by unfold Fits; omega)
            rw [padV_set hyl.out hlt] at hVs
            have he5 : Ext wb (w4.setCell ⟨w0.heap.size, k, none⟩ (.int .i64 (y.m.word (gI y.vals o.x)))) := Ext.hold he4
            have hs5 : w4.heap.size + 0 ≤ ((w4.setCell ⟨w0.heap.size, k, none⟩ (.int .i64 (y.m.word (gI y.vals o.x))))).heap.size := by simp
            have hBb_5 : Bx (w4.setCell ⟨w0.heap.size, k, none⟩ (.int .i64 (y.m.word (gI y.vals o.x)))) (w.heap.size) [.int .i64 b.pc, .int .i64 b.len, (.slice (some ⟨bb, off, none⟩) b.ops.length cb1), .int .i64 b.fin, .int .i64 b.x, .int .i64 b.y, .int .i64 b.k] := Bx.hold hBb_4
            have hFb_5 : ∀ oo, (w4.setCell ⟨w0.heap.size, k, none⟩ (.int .i64 (y.m.word (gI y.vals o.x)))).frozen? ⟨w.heap.size, oo, none⟩ = false := fz_hold hFb_4
            have hBm_5 : Bx (w4.setCell ⟨w0.heap.size, k, none⟩ (.int .i64 (y.m.word (gI y.vals o.x)))) (bm) [(.slice (some ⟨g1, o1, none⟩) 4 c1), .int .i64 y.m.pc, (.slice (some ⟨g2, o2, none⟩) 64 c2), .int .i64 y.m.save, .bool y.m.lets, .bool y.m.waits, .int .i64 y.m.halt, (.slice B3 y.m.ins.length d3), (.slice B4 y.m.outs.length d4), .int .i64 y.m.count] := Bx.hold hBm_4
            have hFm_5 : ∀ oo, (w4.setCell ⟨w0.heap.size, k, none⟩ (.int .i64 (y.m.word (gI y.vals o.x)))).frozen? ⟨bm, oo, none⟩ = false := fz_hold hFm_4
            have hBo_5 : Bx (w4.setCell ⟨w0.heap.size, k, none⟩ (.int .i64 (y.m.word (gI y.vals o.x)))) (w2.heap.size) [.int .i64 o.kind, .int .i64 o.x, .int .i64 o.y, .int .i64 o.k, .int .i64 o.at_] := Bx.hold hBo_4
            have hFo_5 : ∀ oo, (w4.setCell ⟨w0.heap.size, k, none⟩ (.int .i64 (y.m.word (gI y.vals o.x)))).frozen? ⟨w2.heap.size, oo, none⟩ = false := fz_hold hFo_4
            have hMq := (hM.far (by simp) _ : Mach _ _ _ (w4.setCell ⟨w0.heap.size, k, none⟩ (.int .i64 (y.m.word (gI y.vals o.x)))) _ _ _ _ _ _ _ _ _)
            have hVq := (hVs : FRow (w4.setCell ⟨w0.heap.size, k, none⟩ (.int .i64 (y.m.word (gI y.vals o.x)))) _ _ _)
            generalize (w4.setCell ⟨w0.heap.size, k, none⟩ (.int .i64 (y.m.word (gI y.vals o.x)))) = w5 at *
            clear hBb_4 hFb_4 hBm_4 hFm_4 hBo_4 hFo_4 hM hV
            have hM := hMq
            clear hMq
            have hV := hVq
            clear hVq
            go_meet
            exact ⟨(y.m.word (gI y.vals o.x)), y.m, B3, B4, d3, d4, HR1, hV, hM, he5, by omega, hBb_5, hFb_5, hBm_5, hFm_5⟩
        · as_aux_lemma =>
            have q1 : (o.kind == 1) = false := by rw [e]; rfl
            have q2 : (o.kind == 2) = false := by rw [e]; rfl
            have q3 : (o.kind == 3) = false := by rw [e]; rfl
            have q4 : (o.kind == 4) = false := by rw [e]; rfl
            have q5 : (o.kind == 5) = true := by rw [e]; rfl
            have q6 : (o.kind == 6) = false := by rw [e]; rfl
            have q7 : (o.kind == 7) = false := by rw [e]; rfl
            have q8 : (o.kind == 8) = false := by rw [e]; rfl
            have hx6 := h64 (by omega)
            obtain ⟨Q, hQ⟩ := Int.eq_ofNat_of_zero_le hwx.1
            have hQ6 : Q < 64 := by omega
            have rQ := hM.memAt hQ6
            rw [← hQ] at rQ
            have hfz2 := hM.fz2
            have x0 : 0 ≤ gI y.vals o.x := hwx.1
            have x1 : gI y.vals o.x < 64 := hx6
            have x2 : (gI y.vals o.x).toNat = Q := by omega
            have hat := op_at hop (by omega)
            have HS := hide (show y.m.setM (gI y.vals o.x) (gI y.vals o.y) = ({ y.m with mem := y.m.mem.set Q (gI y.vals o.y) } : MchMach) by unfold MchMach.setM; rw [x2])
            have hvv : ∀ v, inB (gI y.vals o.x) (b.pc + o.at_ + 1) (b.pc + b.len - 1) = v → rEvent b y.m o (gI y.vals o.x) (gI y.vals o.y) = if v = true then (rLeave b ({ y.m with mem := y.m.mem.set Q (gI y.vals o.y) } : MchMach) (o.at_ + 1) 0, 0, true) else (({ y.m with mem := y.m.mem.set Q (gI y.vals o.y) } : MchMach), 0, false) := fun v hv => by
              have hov : overB b (gI y.vals o.x) o.at_ = v := by rw [← hv]; unfold overB inB; rw [Bool.eq_iff_iff]; simp; omega
              unfold rEvent
              rw [if_neg (by omega), if_neg (by omega), if_neg (by omega), if_neg (by omega), hov, HS.out]
            have zp1 : IntKind.i64.wrap (b.pc + o.at_) = b.pc + o.at_ := by rw [IntKind.wrap_i64]; omega
            have zp2 : IntKind.i64.wrap (b.pc + o.at_ + 1) = b.pc + o.at_ + 1 := by rw [IntKind.wrap_i64]; omega
            have zp3 : IntKind.i64.wrap (b.pc + b.len) = b.pc + b.len := by rw [IntKind.wrap_i64]; omega
            have zp4 : IntKind.i64.wrap (b.pc + b.len - 1) = b.pc + b.len - 1 := by rw [IntKind.wrap_i64]; omega
            have HV5 := hide (fun v (hv : inB (gI y.vals o.x) (b.pc + o.at_ + 1) (b.pc + b.len - 1) = v) => hvv v hv)
            have HE5 := hide e
            clear hvv e hQ
            have yo : w2.heap.size < w4.heap.size := by omega
            have xo0 := hBo_4 0 _ rfl
            have xo1 := hBo_4 1 _ rfl
            have xo2 := hBo_4 2 _ rfl
            have xo3 := hBo_4 3 _ rfl
            have xo4 := hBo_4 4 _ rfl
            have fo := hFo_4
            have ym : bm < w4.heap.size := by omega
            have xm0 := hBm_4 0 _ rfl
            have xm1 := hBm_4 1 _ rfl
            have xm2 := hBm_4 2 _ rfl
            have xm3 := hBm_4 3 _ rfl
            have xm4 := hBm_4 4 _ rfl
            have xm5 := hBm_4 5 _ rfl
            have xm6 := hBm_4 6 _ rfl
            have xm7 := hBm_4 7 _ rfl
            have xm8 := hBm_4 8 _ rfl
            have xm9 := hBm_4 9 _ rfl
            have fm := hFm_4
            go_upto_region 23 with fail
            clear xo0 xo1 xo2 xo3 xo4 yo
            clear fo
            clear xm0 xm1 xm2 xm3 xm4 xm5 xm6 xm7 xm8 xm9 ym
            clear fm
            have he5 : Ext wb (w4.setCell ⟨g2, o2 + Q, none⟩ (.int .i64 (gI y.vals o.y))) := Ext.hold he4
            have hs5 : w4.heap.size + 0 ≤ ((w4.setCell ⟨g2, o2 + Q, none⟩ (.int .i64 (gI y.vals o.y)))).heap.size := by simp
            have hBb_5 : Bx (w4.setCell ⟨g2, o2 + Q, none⟩ (.int .i64 (gI y.vals o.y))) (w.heap.size) [.int .i64 b.pc, .int .i64 b.len, (.slice (some ⟨bb, off, none⟩) b.ops.length cb1), .int .i64 b.fin, .int .i64 b.x, .int .i64 b.y, .int .i64 b.k] := Bx.hold hBb_4
            have hFb_5 : ∀ oo, (w4.setCell ⟨g2, o2 + Q, none⟩ (.int .i64 (gI y.vals o.y))).frozen? ⟨w.heap.size, oo, none⟩ = false := fz_hold hFb_4
            have hBm_5 : Bx (w4.setCell ⟨g2, o2 + Q, none⟩ (.int .i64 (gI y.vals o.y))) (bm) [(.slice (some ⟨g1, o1, none⟩) 4 c1), .int .i64 y.m.pc, (.slice (some ⟨g2, o2, none⟩) 64 c2), .int .i64 y.m.save, .bool y.m.lets, .bool y.m.waits, .int .i64 y.m.halt, (.slice B3 y.m.ins.length d3), (.slice B4 y.m.outs.length d4), .int .i64 y.m.count] := Bx.hold hBm_4
            have hFm_5 : ∀ oo, (w4.setCell ⟨g2, o2 + Q, none⟩ (.int .i64 (gI y.vals o.y))).frozen? ⟨bm, oo, none⟩ = false := fz_hold hFm_4
            have hBo_5 : Bx (w4.setCell ⟨g2, o2 + Q, none⟩ (.int .i64 (gI y.vals o.y))) (w2.heap.size) [.int .i64 o.kind, .int .i64 o.x, .int .i64 o.y, .int .i64 o.k, .int .i64 o.at_] := Bx.hold hBo_4
            have hFo_5 : ∀ oo, (w4.setCell ⟨g2, o2 + Q, none⟩ (.int .i64 (gI y.vals o.y))).frozen? ⟨w2.heap.size, oo, none⟩ = false := fz_hold hFo_4
            have hMq := (hM.setMem hQ6 (n := gI y.vals o.y) (by unfold Fits; omega) : Mach _ _ _ (w4.setCell ⟨g2, o2 + Q, none⟩ (.int .i64 (gI y.vals o.y))) _ _ _ _ _ _ _ _ _)
            have hVq := (hV.far (p := ⟨g2, o2 + Q, none⟩) (fun q => hv2 q.symm) _ : FRow (w4.setCell ⟨g2, o2 + Q, none⟩ (.int .i64 (gI y.vals o.y))) _ _ _)
            generalize (w4.setCell ⟨g2, o2 + Q, none⟩ (.int .i64 (gI y.vals o.y))) = w5 at *
            clear hBb_4 hFb_4 hBm_4 hFm_4 hBo_4 hFo_4 hM hV
            have hM := hMq
            clear hMq
            have hV := hVq
            clear hVq
            have yo : w2.heap.size < w5.heap.size := by omega
            have xo0 := hBo_5 0 _ rfl
            have xo1 := hBo_5 1 _ rfl
            have xo2 := hBo_5 2 _ rfl
            have xo3 := hBo_5 3 _ rfl
            have xo4 := hBo_5 4 _ rfl
            have fo := hFo_5
            have yb : w.heap.size < w5.heap.size := by omega
            have xb0 := hBb_5 0 _ rfl
            have xb1 := hBb_5 1 _ rfl
            have xb2 := hBb_5 2 _ rfl
            have xb3 := hBb_5 3 _ rfl
            have xb4 := hBb_5 4 _ rfl
            have xb5 := hBb_5 5 _ rfl
            have xb6 := hBb_5 6 _ rfl
            have fb := hFb_5
            go_wp2_with fail
            refine (in_any (gI y.vals o.x) (b.pc + o.at_ + 1) (b.pc + b.len - 1) _).mono ?_
            rintro e w' ⟨rfl, rfl⟩
            clear xo0 xo1 xo2 xo3 xo4 yo
            clear fo
            clear xb0 xb1 xb2 xb3 xb4 xb5 xb6 yb
            clear fb
            cases qv : inB (gI y.vals o.x) (b.pc + o.at_ + 1) (b.pc + b.len - 1)
            · 
              have HR1 := hide (show rOp b y o = ⟨({ y.m with mem := y.m.mem.set Q (gI y.vals o.y) } : MchMach), y.vals ++ [0], false⟩ by rw [rOp_event HL.out (by have := HE5.out; omega), HV5.out _ qv]; rfl)
              clear qv
              go_wp2_with fail
              have hVs := hV
              rw [padV_keep hyl.out hlt] at hVs
              go_meet
              exact ⟨0, ({ y.m with mem := y.m.mem.set Q (gI y.vals o.y) } : MchMach), B3, B4, d3, d4, HR1, hVs, hM, he5, by omega, hBb_5, hFb_5, hBm_5, hFm_5⟩
            · 
              have HLv := hide (show rTo b m (k + 1) = ⟨(rLeave b ({ y.m with mem := y.m.mem.set Q (gI y.vals o.y) } : MchMach) (o.at_ + 1) 0), y.vals ++ [0], true⟩ by rw [HO.out, rOp_event HL.out (by have := HE5.out; omega), HV5.out _ qv]; rfl)
              clear qv
              have zw0 : IntKind.i64.wrap (o.at_ + 1) = o.at_ + 1 := by rw [IntKind.wrap_i64]; omega
              have zw1 : IntKind.i64.wrap (y.m.pc + (o.at_ + 1)) = y.m.pc + (o.at_ + 1) := by rw [IntKind.wrap_i64]; omega
              have zw2 : IntKind.i64.wrap (y.m.count + (o.at_ + 1)) = y.m.count + (o.at_ + 1) := by rw [IntKind.wrap_i64]; omega
              have ym : bm < w5.heap.size := by omega
              have xm0 := hBm_5 0 _ rfl
              have xm1 := hBm_5 1 _ rfl
              have xm2 := hBm_5 2 _ rfl
              have xm3 := hBm_5 3 _ rfl
              have xm4 := hBm_5 4 _ rfl
              have xm5 := hBm_5 5 _ rfl
              have xm6 := hBm_5 6 _ rfl
              have xm7 := hBm_5 7 _ rfl
              have xm8 := hBm_5 8 _ rfl
              have xm9 := hBm_5 9 _ rfl
              have fm := hFm_5
              have yo : w2.heap.size < w5.heap.size := by omega
              have xo0 := hBo_5 0 _ rfl
              have xo1 := hBo_5 1 _ rfl
              have xo2 := hBo_5 2 _ rfl
              have xo3 := hBo_5 3 _ rfl
              have xo4 := hBo_5 4 _ rfl
              have fo := hFo_5
              go_upto_region 24 with fail
              have hS : ∀ w', Ext w5 w' → ∀ bb oo, bb < w5.heap.size → w'.cell? ⟨bb, oo, none⟩ = w5.cell? ⟨bb, oo, none⟩ := fun w' hx bb oo hb => hx.cell hb
              refine wp_region_plan (fun w' => Ext w5 w') 7 (.float 0 (.float 1 (.float 2 (.float 3 (.float 4 (.float 5 (.float 6 (.tail 7)))))))) (by kernel_rfl) (by kernel_rfl) (Ext.refl _).drew ?_
              iterate 7 ((refine Plan.float_step (v := ?_) rfl (by rfl) (fun _ _ _ h => h) (fun w' hSw => ?_) ?_; rotate_left; · (go_simp; try with_reducible rfl)); (try simp only [Act.put, List.setIfInBounds_toArray, List.set_cons_zero, List.set_cons_succ]))
              refine Plan.tail_step ?_
              simp only [List.drop_succ_cons, List.drop_zero]
              clear hS
              go_upto_region 25 with fail
              clear xm0 xm1 xm2 xm3 xm4 xm5 xm6 xm7 xm8 xm9 ym
              clear fm
              clear xo0 xo1 xo2 xo3 xo4 yo
              clear fo
              have he6 : Ext wb (World.drew (w5.setCell ⟨bm, 1, none⟩ (.int .i64 (y.m.pc + (o.at_ + 1))))) := Ext.hold he5
              have hs6 : w5.heap.size + 0 ≤ ((World.drew (w5.setCell ⟨bm, 1, none⟩ (.int .i64 (y.m.pc + (o.at_ + 1)))))).heap.size := by simp
              have hBb_6 : Bx (World.drew (w5.setCell ⟨bm, 1, none⟩ (.int .i64 (y.m.pc + (o.at_ + 1))))) (w.heap.size) [.int .i64 b.pc, .int .i64 b.len, (.slice (some ⟨bb, off, none⟩) b.ops.length cb1), .int .i64 b.fin, .int .i64 b.x, .int .i64 b.y, .int .i64 b.k] := Bx.hold hBb_5
              have hFb_6 : ∀ oo, (World.drew (w5.setCell ⟨bm, 1, none⟩ (.int .i64 (y.m.pc + (o.at_ + 1))))).frozen? ⟨w.heap.size, oo, none⟩ = false := fz_hold hFb_5
              have hBm_6 : Bx (World.drew (w5.setCell ⟨bm, 1, none⟩ (.int .i64 (y.m.pc + (o.at_ + 1))))) (bm) [(.slice (some ⟨g1, o1, none⟩) 4 c1), .int .i64 (y.m.pc + (o.at_ + 1)), (.slice (some ⟨g2, o2, none⟩) 64 c2), .int .i64 y.m.save, .bool y.m.lets, .bool y.m.waits, .int .i64 y.m.halt, (.slice B3 y.m.ins.length d3), (.slice B4 y.m.outs.length d4), .int .i64 y.m.count] := Bx.drew (by have := (Bx.put hBm_5 (j := 1) (by simp) (.int .i64 (y.m.pc + (o.at_ + 1)))); simpa using this)
              have hFm_6 : ∀ oo, (World.drew (w5.setCell ⟨bm, 1, none⟩ (.int .i64 (y.m.pc + (o.at_ + 1))))).frozen? ⟨bm, oo, none⟩ = false := fz_hold hFm_5
              have hBo_6 : Bx (World.drew (w5.setCell ⟨bm, 1, none⟩ (.int .i64 (y.m.pc + (o.at_ + 1))))) (w2.heap.size) [.int .i64 o.kind, .int .i64 o.x, .int .i64 o.y, .int .i64 o.k, .int .i64 o.at_] := Bx.hold hBo_5
              have hFo_6 : ∀ oo, (World.drew (w5.setCell ⟨bm, 1, none⟩ (.int .i64 (y.m.pc + (o.at_ + 1))))).frozen? ⟨w2.heap.size, oo, none⟩ = false := fz_hold hFo_5
              have hMq := ((hM.far hbX (p := ⟨bm, 1, none⟩) _).drew : Mach _ _ _ (World.drew (w5.setCell ⟨bm, 1, none⟩ (.int .i64 (y.m.pc + (o.at_ + 1))))) _ _ _ _ _ _ _ _ _)
              have hVq := ((hV.far (p := ⟨bm, 1, none⟩) hbV _).drew : FRow (World.drew (w5.setCell ⟨bm, 1, none⟩ (.int .i64 (y.m.pc + (o.at_ + 1))))) _ _ _)
              generalize (World.drew (w5.setCell ⟨bm, 1, none⟩ (.int .i64 (y.m.pc + (o.at_ + 1))))) = w6 at *
              clear hBb_5 hFb_5 hBm_5 hFm_5 hBo_5 hFo_5 hM hV
              have hM := hMq
              clear hMq
              have hV := hVq
              clear hVq
              have ym : bm < w6.heap.size := by omega
              have xm0 := hBm_6 0 _ rfl
              have xm1 := hBm_6 1 _ rfl
              have xm2 := hBm_6 2 _ rfl
              have xm3 := hBm_6 3 _ rfl
              have xm4 := hBm_6 4 _ rfl
              have xm5 := hBm_6 5 _ rfl
              have xm6 := hBm_6 6 _ rfl
              have xm7 := hBm_6 7 _ rfl
              have xm8 := hBm_6 8 _ rfl
              have xm9 := hBm_6 9 _ rfl
              have fm := hFm_6
              have yo : w2.heap.size < w6.heap.size := by omega
              have xo0 := hBo_6 0 _ rfl
              have xo1 := hBo_6 1 _ rfl
              have xo2 := hBo_6 2 _ rfl
              have xo3 := hBo_6 3 _ rfl
              have xo4 := hBo_6 4 _ rfl
              have fo := hFo_6
              go_upto_region 25 with fail
              have hS : ∀ w', Ext w6 w' → ∀ bb oo, bb < w6.heap.size → w'.cell? ⟨bb, oo, none⟩ = w6.cell? ⟨bb, oo, none⟩ := fun w' hx bb oo hb => hx.cell hb
              refine wp_region_plan (fun w' => Ext w6 w') 7 (.float 0 (.float 1 (.float 2 (.float 3 (.float 4 (.float 5 (.float 6 (.tail 7)))))))) (by kernel_rfl) (by kernel_rfl) (Ext.refl _).drew ?_
              iterate 7 ((refine Plan.float_step (v := ?_) rfl (by rfl) (fun _ _ _ h => h) (fun w' hSw => ?_) ?_; rotate_left; · (go_simp; try with_reducible rfl)); (try simp only [Act.put, List.setIfInBounds_toArray, List.set_cons_zero, List.set_cons_succ]))
              refine Plan.tail_step ?_
              simp only [List.drop_succ_cons, List.drop_zero]
              clear hS
              go_wp2_with fail
              clear xm0 xm1 xm2 xm3 xm4 xm5 xm6 xm7 xm8 xm9 ym
              clear fm
              clear xo0 xo1 xo2 xo3 xo4 yo
              clear fo
              have he7 : Ext wb (World.drew (w6.setCell ⟨bm, 9, none⟩ (.int .i64 (y.m.count + (o.at_ + 1))))) := Ext.hold he6
              have hs7 : w6.heap.size + 0 ≤ ((World.drew (w6.setCell ⟨bm, 9, none⟩ (.int .i64 (y.m.count + (o.at_ + 1)))))).heap.size := by simp
              have hBb_7 : Bx (World.drew (w6.setCell ⟨bm, 9, none⟩ (.int .i64 (y.m.count + (o.at_ + 1))))) (w.heap.size) [.int .i64 b.pc, .int .i64 b.len, (.slice (some ⟨bb, off, none⟩) b.ops.length cb1), .int .i64 b.fin, .int .i64 b.x, .int .i64 b.y, .int .i64 b.k] := Bx.hold hBb_6
              have hFb_7 : ∀ oo, (World.drew (w6.setCell ⟨bm, 9, none⟩ (.int .i64 (y.m.count + (o.at_ + 1))))).frozen? ⟨w.heap.size, oo, none⟩ = false := fz_hold hFb_6
              have hBm_7 : Bx (World.drew (w6.setCell ⟨bm, 9, none⟩ (.int .i64 (y.m.count + (o.at_ + 1))))) (bm) [(.slice (some ⟨g1, o1, none⟩) 4 c1), .int .i64 (y.m.pc + (o.at_ + 1)), (.slice (some ⟨g2, o2, none⟩) 64 c2), .int .i64 y.m.save, .bool y.m.lets, .bool y.m.waits, .int .i64 y.m.halt, (.slice B3 y.m.ins.length d3), (.slice B4 y.m.outs.length d4), .int .i64 (y.m.count + (o.at_ + 1))] := Bx.drew (by have := (Bx.put hBm_6 (j := 9) (by simp) (.int .i64 (y.m.count + (o.at_ + 1)))); simpa using this)
              have hFm_7 : ∀ oo, (World.drew (w6.setCell ⟨bm, 9, none⟩ (.int .i64 (y.m.count + (o.at_ + 1))))).frozen? ⟨bm, oo, none⟩ = false := fz_hold hFm_6
              have hBo_7 : Bx (World.drew (w6.setCell ⟨bm, 9, none⟩ (.int .i64 (y.m.count + (o.at_ + 1))))) (w2.heap.size) [.int .i64 o.kind, .int .i64 o.x, .int .i64 o.y, .int .i64 o.k, .int .i64 o.at_] := Bx.hold hBo_6
              have hFo_7 : ∀ oo, (World.drew (w6.setCell ⟨bm, 9, none⟩ (.int .i64 (y.m.count + (o.at_ + 1))))).frozen? ⟨w2.heap.size, oo, none⟩ = false := fz_hold hFo_6
              have hMq := ((hM.far hbX (p := ⟨bm, 9, none⟩) _).drew : Mach _ _ _ (World.drew (w6.setCell ⟨bm, 9, none⟩ (.int .i64 (y.m.count + (o.at_ + 1))))) _ _ _ _ _ _ _ _ _)
              have hVq := ((hV.far (p := ⟨bm, 9, none⟩) hbV _).drew : FRow (World.drew (w6.setCell ⟨bm, 9, none⟩ (.int .i64 (y.m.count + (o.at_ + 1))))) _ _ _)
              generalize (World.drew (w6.setCell ⟨bm, 9, none⟩ (.int .i64 (y.m.count + (o.at_ + 1))))) = w7 at *
              clear hBb_6 hFb_6 hBm_6 hFm_6 hBo_6 hFo_6 hM hV
              have hM := hMq
              clear hMq
              have hV := hVq
              clear hVq
              have HVz := hide (show rEnd b (rTo b m b.ops.length) = (rLeave b ({ y.m with mem := y.m.mem.set Q (gI y.vals o.y) } : MchMach) (o.at_ + 1) 0) by rw [rTo_left b m (k + 1) (by omega) (by rw [HLv.out]), HLv.out]; rfl)
              (try simp only [Exit.inBlock, Exit.then])
              refine bodyPost_ret (results_none rfl _ _ _) rfl ?_
              rw [HVz.out]
              exact ⟨rfl, (.slice B3 y.m.ins.length d3), (.slice B4 y.m.outs.length d4), by simpa [rLeave, MchMach.setM, HPy.out, HHy.out] using hBm_7, hFm_7, (hM.same (m' := (rLeave b ({ y.m with mem := y.m.mem.set Q (gI y.vals o.y) } : MchMach) (o.at_ + 1) 0)) rfl rfl rfl rfl).dropX.dropX, he7, by omega⟩
        · as_aux_lemma =>
            have q1 : (o.kind == 1) = false := by rw [e]; rfl
            have q2 : (o.kind == 2) = false := by rw [e]; rfl
            have q3 : (o.kind == 3) = false := by rw [e]; rfl
            have q4 : (o.kind == 4) = false := by rw [e]; rfl
            have q5 : (o.kind == 5) = false := by rw [e]; rfl
            have q6 : (o.kind == 6) = true := by rw [e]; rfl
            have q7 : (o.kind == 7) = false := by rw [e]; rfl
            have q8 : (o.kind == 8) = false := by rw [e]; rfl
            have hiw := insWord hyk
            have HR1 := hide (show rOp b y o = ⟨({ y.m with ins := y.m.ins.drop 1 } : MchMach), y.vals ++ [((y.m.ins[0]?).getD 0)], false⟩ by rw [rOp_event HL.out (by omega)]; unfold rEvent; rw [if_neg (by omega), if_pos e])
            clear e
            go_wp2_with fail
            refine (input_any y.m _ _ _ _ _ _ _ _ wb.heap.size _ _ hM bm hbX hBm_4 hFm_4).mono ?_
            rintro e w5 ⟨rfl, v3', hBm_5, hFm_5, hMi, hy⟩
            obtain ⟨B5, d5, rfl, -, -⟩ := hMi.form3
            have hs5 := hy.size
            have he5 : Ext wb w5 := hy.ext he4 (by simp; omega)
            replace hV := hV.turn hy (by simp; omega)
            have hBb_5 : Bx w5 (w.heap.size) [.int .i64 b.pc, .int .i64 b.len, (.slice (some ⟨bb, off, none⟩) b.ops.length cb1), .int .i64 b.fin, .int .i64 b.x, .int .i64 b.y, .int .i64 b.k] := hy.bx hBb_4 (by omega) (by simp; omega)
            have hFb_5 : ∀ oo, w5.frozen? ⟨w.heap.size, oo, none⟩ = false := fun oo => (hy.frozen (by omega) (by simp; omega)).trans (hFb_4 oo)
            have hBo_5 : Bx w5 (w2.heap.size) [.int .i64 o.kind, .int .i64 o.x, .int .i64 o.y, .int .i64 o.k, .int .i64 o.at_] := hy.bx hBo_4 (by omega) (by simp; omega)
            have hFo_5 : ∀ oo, w5.frozen? ⟨w2.heap.size, oo, none⟩ = false := fun oo => (hy.frozen (by omega) (by simp; omega)).trans (hFo_4 oo)
            clear hM hBm_4 hFm_4 hBb_4 hFb_4 hBo_4 hFo_4
            have hM := hMi
            clear hMi hy
            replace hfzV := hV.fz
            replace yv := hV.lt
            replace rk := hV.int0 hkl
            go_wp2_with fail
            have hVs := hV.setInt0 hkl ((y.m.ins[0]?).getD 0) (by unfold Fits; omega)
            rw [padV_set hyl.out hlt] at hVs
            have he6 : Ext wb (w5.setCell ⟨w0.heap.size, k, none⟩ (.int .i64 ((y.m.ins[0]?).getD 0))) := Ext.hold he5
            have hs6 : w5.heap.size + 0 ≤ ((w5.setCell ⟨w0.heap.size, k, none⟩ (.int .i64 ((y.m.ins[0]?).getD 0)))).heap.size := by simp
            have hBb_6 : Bx (w5.setCell ⟨w0.heap.size, k, none⟩ (.int .i64 ((y.m.ins[0]?).getD 0))) (w.heap.size) [.int .i64 b.pc, .int .i64 b.len, (.slice (some ⟨bb, off, none⟩) b.ops.length cb1), .int .i64 b.fin, .int .i64 b.x, .int .i64 b.y, .int .i64 b.k] := Bx.hold hBb_5
            have hFb_6 : ∀ oo, (w5.setCell ⟨w0.heap.size, k, none⟩ (.int .i64 ((y.m.ins[0]?).getD 0))).frozen? ⟨w.heap.size, oo, none⟩ = false := fz_hold hFb_5
            have hBm_6 : Bx (w5.setCell ⟨w0.heap.size, k, none⟩ (.int .i64 ((y.m.ins[0]?).getD 0))) (bm) [(.slice (some ⟨g1, o1, none⟩) 4 c1), .int .i64 y.m.pc, (.slice (some ⟨g2, o2, none⟩) 64 c2), .int .i64 y.m.save, .bool y.m.lets, .bool y.m.waits, .int .i64 y.m.halt, (.slice B5 (y.m.ins.drop 1).length d5), (.slice B4 y.m.outs.length d4), .int .i64 y.m.count] := Bx.hold hBm_5
            have hFm_6 : ∀ oo, (w5.setCell ⟨w0.heap.size, k, none⟩ (.int .i64 ((y.m.ins[0]?).getD 0))).frozen? ⟨bm, oo, none⟩ = false := fz_hold hFm_5
            have hBo_6 : Bx (w5.setCell ⟨w0.heap.size, k, none⟩ (.int .i64 ((y.m.ins[0]?).getD 0))) (w2.heap.size) [.int .i64 o.kind, .int .i64 o.x, .int .i64 o.y, .int .i64 o.k, .int .i64 o.at_] := Bx.hold hBo_5
            have hFo_6 : ∀ oo, (w5.setCell ⟨w0.heap.size, k, none⟩ (.int .i64 ((y.m.ins[0]?).getD 0))).frozen? ⟨w2.heap.size, oo, none⟩ = false := fz_hold hFo_5
            have hMq := (hM.far (by simp) _ : Mach _ _ _ (w5.setCell ⟨w0.heap.size, k, none⟩ (.int .i64 ((y.m.ins[0]?).getD 0))) _ _ _ _ _ _ _ _ _)
            have hVq := (hVs : FRow (w5.setCell ⟨w0.heap.size, k, none⟩ (.int .i64 ((y.m.ins[0]?).getD 0))) _ _ _)
            generalize (w5.setCell ⟨w0.heap.size, k, none⟩ (.int .i64 ((y.m.ins[0]?).getD 0))) = w6 at *
            clear hBb_5 hFb_5 hBm_5 hFm_5 hBo_5 hFo_5 hM hV
            have hM := hMq
            clear hMq
            have hV := hVq
            clear hVq
            go_meet
            exact ⟨((y.m.ins[0]?).getD 0), ({ y.m with ins := y.m.ins.drop 1 } : MchMach), B5, B4, d5, d4, HR1, hV, hM, he6, by omega, hBb_6, hFb_6, hBm_6, hFm_6⟩
        · as_aux_lemma =>
            have q1 : (o.kind == 1) = false := by rw [e]; rfl
            have q2 : (o.kind == 2) = false := by rw [e]; rfl
            have q3 : (o.kind == 3) = false := by rw [e]; rfl
            have q4 : (o.kind == 4) = false := by rw [e]; rfl
            have q5 : (o.kind == 5) = false := by rw [e]; rfl
            have q6 : (o.kind == 6) = false := by rw [e]; rfl
            have q7 : (o.kind == 7) = true := by rw [e]; rfl
            have q8 : (o.kind == 8) = false := by rw [e]; rfl
            have HR1 := hide (show rOp b y o = ⟨({ y.m with outs := y.m.outs ++ [gI y.vals o.x] } : MchMach), y.vals ++ [0], false⟩ by rw [rOp_event HL.out (by omega)]; unfold rEvent; rw [if_pos e])
            clear e
            obtain ⟨F3, wa, Fs, xs, hC⟩ := hM
            have hfit : Fits (gI y.vals o.x) := by unfold Fits; omega
            have hyl48 : y.vals.length ≤ 48 := by omega
            obtain ⟨-, -, hB4l, hB4c⟩ : True ∧ True ∧ y.m.outs.length ≤ d4 ∧ d4 ≤ maxLen := by have := Mach.form4 ⟨F3, wa, Fs, xs, hC⟩; obtain ⟨A_, c_, hq, h1, h2⟩ := this; injection hq with _ _ hq; subst hq; exact ⟨trivial, trivial, h1, h2⟩
            unfold maxLen at hB4c
            have hnot : ∀ z, z ∈ (w0.heap.size :: w.heap.size :: X) → z ∉ (Value.slice B4 y.m.outs.length d4).ownBlock.toList := fun z hz hm => (hC.av z hz).2.2.2.2.2 (by simpa using hm)
            have ym : bm < w4.heap.size := by omega
            have xm0 := hBm_4 0 _ rfl
            have xm1 := hBm_4 1 _ rfl
            have xm2 := hBm_4 2 _ rfl
            have xm3 := hBm_4 3 _ rfl
            have xm4 := hBm_4 4 _ rfl
            have xm5 := hBm_4 5 _ rfl
            have xm6 := hBm_4 6 _ rfl
            have xm7 := hBm_4 7 _ rfl
            have xm8 := hBm_4 8 _ rfl
            have xm9 := hBm_4 9 _ rfl
            have fm := hFm_4
            go_wp2_with (at_builtin; go_must (refine wpList_append_push2 (α := Int) (w0 := wa) (wr := w4) rfl _ _ 41 rfl i0 _ 8 Try.underlying41 HI.out HZ0.out HZ1.out HZ2.out rfl (by decide) hC.s4 rfl (gI y.vals o.x) #[.int .i64 (gI y.vals o.x)] 3 [] _ rfl Ext.auto ⟨⟨rfl, hfit⟩, rfl⟩ (Fr.nil _ _) (by repeat (first | (exact fun _ h => absurd h (List.not_mem_nil)) | (refine List.forall_mem_cons.2 ⟨rfl, ?_⟩))) (by unfold maxLen; omega) (by omega) ?_); intro v' w9 xs' hA9 hg9 hb9; have hP := hC.push (W := (w4.alloc (.cells #[.int .i64 (gI y.vals o.x)] 3))) Ext.auto hA9 hg9 hb9; obtain ⟨A9, c9, rfl, hl9, hm9⟩ := hP.form4; have hT9 := (Turn.of_grown (a := w4) (b := (w4.alloc (.cells #[.int .i64 (gI y.vals o.x)] 3))) Ext.auto hg9); have hsz9 := hg9.size; have hBm9 := hT9.bx hBm_4 ym (hnot _ hbX); have hFm9 := fun oo => (hT9.frozen ym (hnot _ hbX)).trans (hFm_4 oo); have xq0 := hBm9 0 _ rfl; have xq1 := hBm9 1 _ rfl; have xq2 := hBm9 2 _ rfl; have xq3 := hBm9 3 _ rfl; have xq4 := hBm9 4 _ rfl; have xq5 := hBm9 5 _ rfl; have xq6 := hBm9 6 _ rfl; have xq7 := hBm9 7 _ rfl; have xq8 := hBm9 8 _ rfl; have xq9 := hBm9 9 _ rfl; have yq := Nat.lt_of_lt_of_le ym (Turn.size hT9))
            clear xm0 xm1 xm2 xm3 xm4 xm5 xm6 xm7 xm8 xm9 ym
            clear fm
            clear xq0 xq1 xq2 xq3 xq4 xq5 xq6 xq7 xq8 xq9 yq
            obtain ⟨w5, hw9⟩ : ∃ w5 : World, w5 = w9 := ⟨_, rfl⟩
            subst hw9
            have hs5 : w4.heap.size ≤ w5.heap.size := hT9.size
            have he5 : Ext wb w5 := hT9.ext he4 (fun x hx => by have := (hC.own4 x (by simpa using hx)).1; have hla := hC.la; omega)
            have hV9 := hV.turn hT9 (hnot _ (by simp))
            have hBb_5 : Bx w5 (w.heap.size) [.int .i64 b.pc, .int .i64 b.len, (.slice (some ⟨bb, off, none⟩) b.ops.length cb1), .int .i64 b.fin, .int .i64 b.x, .int .i64 b.y, .int .i64 b.k] := hT9.bx hBb_4 (by omega) (hnot _ (by simp))
            have hFb_5 : ∀ oo, w5.frozen? ⟨w.heap.size, oo, none⟩ = false := fun oo => (hT9.frozen (by omega) (hnot _ (by simp))).trans (hFb_4 oo)
            have hBm_5 := hBm9
            have hFm_5 := hFm9
            clear hBm9 hFm9 hV hBb_4 hFb_4 hBm_4 hFm_4 hBo_4 hFo_4 hC hnot hT9
            have hV := hV9
            have hM := hP
            clear hV9 hP
            have e9 : (y.m.outs ++ [gI y.vals o.x]).length = y.m.outs.length + 1 := by simp
            (try rw [e9] at hM)
            (try rw [show ({ y.m with outs := y.m.outs ++ [gI y.vals o.x] } : MchMach).outs.length = y.m.outs.length + 1 from e9] at hM)
            have he6 : Ext wb (w5.setCell ⟨bm, 8, none⟩ (.slice A9 (y.m.outs.length + 1) c9)) := Ext.hold he5
            have hs6 : w5.heap.size + 0 ≤ ((w5.setCell ⟨bm, 8, none⟩ (.slice A9 (y.m.outs.length + 1) c9))).heap.size := by simp
            have hBb_6 : Bx (w5.setCell ⟨bm, 8, none⟩ (.slice A9 (y.m.outs.length + 1) c9)) (w.heap.size) [.int .i64 b.pc, .int .i64 b.len, (.slice (some ⟨bb, off, none⟩) b.ops.length cb1), .int .i64 b.fin, .int .i64 b.x, .int .i64 b.y, .int .i64 b.k] := Bx.hold hBb_5
            have hFb_6 : ∀ oo, (w5.setCell ⟨bm, 8, none⟩ (.slice A9 (y.m.outs.length + 1) c9)).frozen? ⟨w.heap.size, oo, none⟩ = false := fz_hold hFb_5
            have hBm_6 : Bx (w5.setCell ⟨bm, 8, none⟩ (.slice A9 (y.m.outs.length + 1) c9)) (bm) [(.slice (some ⟨g1, o1, none⟩) 4 c1), .int .i64 y.m.pc, (.slice (some ⟨g2, o2, none⟩) 64 c2), .int .i64 y.m.save, .bool y.m.lets, .bool y.m.waits, .int .i64 y.m.halt, (.slice B3 y.m.ins.length d3), .slice A9 (y.m.outs.length + 1) c9, .int .i64 y.m.count] := (by have := (Bx.put hBm_5 (j := 8) (by simp) (.slice A9 (y.m.outs.length + 1) c9)); simpa using this)
            have hFm_6 : ∀ oo, (w5.setCell ⟨bm, 8, none⟩ (.slice A9 (y.m.outs.length + 1) c9)).frozen? ⟨bm, oo, none⟩ = false := fz_hold hFm_5
            have hMq := (hM.far hbX (p := ⟨bm, 8, none⟩) _ : Mach _ _ _ (w5.setCell ⟨bm, 8, none⟩ (.slice A9 (y.m.outs.length + 1) c9)) _ _ _ _ _ _ _ _ _)
            have hVq := (hV.far (p := ⟨bm, 8, none⟩) hbV _ : FRow (w5.setCell ⟨bm, 8, none⟩ (.slice A9 (y.m.outs.length + 1) c9)) _ _ _)
            generalize (w5.setCell ⟨bm, 8, none⟩ (.slice A9 (y.m.outs.length + 1) c9)) = w6 at *
            clear hBb_5 hFb_5 hBm_5 hFm_5 hM hV
            have hM := hMq
            clear hMq
            have hV := hVq
            clear hVq
            rw [padV_keep hyl.out hlt] at hV
            rw [← e9] at hM hBm_6
            go_meet
            exact ⟨0, ({ y.m with outs := y.m.outs ++ [gI y.vals o.x] } : MchMach), B3, A9, d3, c9, HR1, hV, hM, he6, by omega, hBb_6, hFb_6, hBm_6, hFm_6⟩
        · as_aux_lemma =>
            have q1 : (o.kind == 1) = false := by rw [e]; rfl
            have q2 : (o.kind == 2) = false := by rw [e]; rfl
            have q3 : (o.kind == 3) = false := by rw [e]; rfl
            have q4 : (o.kind == 4) = false := by rw [e]; rfl
            have q5 : (o.kind == 5) = false := by rw [e]; rfl
            have q6 : (o.kind == 6) = false := by rw [e]; rfl
            have q7 : (o.kind == 7) = false := by rw [e]; rfl
            have q8 : (o.kind == 8) = true := by rw [e]; rfl
            have hr := op_r hop (.inr e)
            obtain ⟨K, hK⟩ := Int.eq_ofNat_of_zero_le hr.1
            have hKl : K < 4 := by omega
            have k0 : 0 ≤ o.k := hr.1
            have k1 : o.k < 4 := by omega
            have k2 : o.k.toNat = K := by omega
            have hfz1 := hM.fz1
            have HR1 := hide (show rOp b y o = ⟨({ y.m with regs := y.m.regs.set K (gI y.vals o.x) } : MchMach), y.vals ++ [0], false⟩ by rw [rOp_set HL.out e]; unfold MchMach.setR; rw [k2])
            clear e hK hr
            have rK := hM.regAt hKl
            have yo : w2.heap.size < w4.heap.size := by omega
            have xo0 := hBo_4 0 _ rfl
            have xo1 := hBo_4 1 _ rfl
            have xo2 := hBo_4 2 _ rfl
            have xo3 := hBo_4 3 _ rfl
            have xo4 := hBo_4 4 _ rfl
            have fo := hFo_4
            have ym : bm < w4.heap.size := by omega
            have xm0 := hBm_4 0 _ rfl
            have xm1 := hBm_4 1 _ rfl
            have xm2 := hBm_4 2 _ rfl
            have xm3 := hBm_4 3 _ rfl
            have xm4 := hBm_4 4 _ rfl
            have xm5 := hBm_4 5 _ rfl
            have xm6 := hBm_4 6 _ rfl
            have xm7 := hBm_4 7 _ rfl
            have xm8 := hBm_4 8 _ rfl
            have xm9 := hBm_4 9 _ rfl
            have fm := hFm_4
            go_upto_region 31 with fail
            have hS : ∀ w', Ext w4 w' → ∀ bb oo, bb < w4.heap.size → w'.cell? ⟨bb, oo, none⟩ = w4.cell? ⟨bb, oo, none⟩ := fun w' hx bb oo hb => hx.cell hb
            refine wp_region_plan (fun w' => Ext w4 w') 7 (.float 0 (.float 1 (.float 2 (.float 3 (.float 4 (.float 5 (.float 6 (.tail 7)))))))) (by kernel_rfl) (by kernel_rfl) (Ext.refl _).drew ?_
            iterate 7 ((refine Plan.float_step (v := ?_) rfl (by rfl) (fun _ _ _ h => h) (fun w' hSw => ?_) ?_; rotate_left; · (go_simp; try with_reducible rfl)); (try simp only [Act.put, List.setIfInBounds_toArray, List.set_cons_zero, List.set_cons_succ]))
            refine Plan.tail_step ?_
            simp only [List.drop_succ_cons, List.drop_zero]
            clear hS
            go_wp2_with fail
            clear xo0 xo1 xo2 xo3 xo4 yo
            clear fo
            clear xm0 xm1 xm2 xm3 xm4 xm5 xm6 xm7 xm8 xm9 ym
            clear fm
            have he5 : Ext wb (World.drew (w4.setCell ⟨g1, o1 + K, none⟩ (.int .i64 (gI y.vals o.x)))) := Ext.hold he4
            have hs5 : w4.heap.size + 0 ≤ ((World.drew (w4.setCell ⟨g1, o1 + K, none⟩ (.int .i64 (gI y.vals o.x))))).heap.size := by simp
            have hBb_5 : Bx (World.drew (w4.setCell ⟨g1, o1 + K, none⟩ (.int .i64 (gI y.vals o.x)))) (w.heap.size) [.int .i64 b.pc, .int .i64 b.len, (.slice (some ⟨bb, off, none⟩) b.ops.length cb1), .int .i64 b.fin, .int .i64 b.x, .int .i64 b.y, .int .i64 b.k] := Bx.hold hBb_4
            have hFb_5 : ∀ oo, (World.drew (w4.setCell ⟨g1, o1 + K, none⟩ (.int .i64 (gI y.vals o.x)))).frozen? ⟨w.heap.size, oo, none⟩ = false := fz_hold hFb_4
            have hBm_5 : Bx (World.drew (w4.setCell ⟨g1, o1 + K, none⟩ (.int .i64 (gI y.vals o.x)))) (bm) [(.slice (some ⟨g1, o1, none⟩) 4 c1), .int .i64 y.m.pc, (.slice (some ⟨g2, o2, none⟩) 64 c2), .int .i64 y.m.save, .bool y.m.lets, .bool y.m.waits, .int .i64 y.m.halt, (.slice B3 y.m.ins.length d3), (.slice B4 y.m.outs.length d4), .int .i64 y.m.count] := Bx.hold hBm_4
            have hFm_5 : ∀ oo, (World.drew (w4.setCell ⟨g1, o1 + K, none⟩ (.int .i64 (gI y.vals o.x)))).frozen? ⟨bm, oo, none⟩ = false := fz_hold hFm_4
            have hBo_5 : Bx (World.drew (w4.setCell ⟨g1, o1 + K, none⟩ (.int .i64 (gI y.vals o.x)))) (w2.heap.size) [.int .i64 o.kind, .int .i64 o.x, .int .i64 o.y, .int .i64 o.k, .int .i64 o.at_] := Bx.hold hBo_4
            have hFo_5 : ∀ oo, (World.drew (w4.setCell ⟨g1, o1 + K, none⟩ (.int .i64 (gI y.vals o.x)))).frozen? ⟨w2.heap.size, oo, none⟩ = false := fz_hold hFo_4
            have hMq := ((hM.setReg hKl (n := gI y.vals o.x) (by unfold Fits; omega)).drew : Mach _ _ _ (World.drew (w4.setCell ⟨g1, o1 + K, none⟩ (.int .i64 (gI y.vals o.x)))) _ _ _ _ _ _ _ _ _)
            have hVq := ((hV.far (p := ⟨g1, o1 + K, none⟩) (fun q => hv1 q.symm) _).drew : FRow (World.drew (w4.setCell ⟨g1, o1 + K, none⟩ (.int .i64 (gI y.vals o.x)))) _ _ _)
            generalize (World.drew (w4.setCell ⟨g1, o1 + K, none⟩ (.int .i64 (gI y.vals o.x)))) = w5 at *
            clear hBb_4 hFb_4 hBm_4 hFm_4 hBo_4 hFo_4 hM hV
            have hM := hMq
            clear hMq
            have hV := hVq
            clear hVq
            rw [padV_keep hyl.out hlt] at hV
            go_meet
            exact ⟨0, ({ y.m with regs := y.m.regs.set K (gI y.vals o.x) } : MchMach), B3, B4, d3, d4, HR1, hV, hM, he5, by omega, hBb_5, hFb_5, hBm_5, hFm_5⟩
      clear hM hV
      obtain ⟨n, M, B5, B6, d5, d6, HR9, hV, hM, he3, hs3, hBb_3, hFb_3, hBm_3, hFm_3⟩ := hcut
      obtain ⟨w3, hwc⟩ : ∃ w3 : World, w3 = wc := ⟨_, rfl⟩
      subst hwc
      obtain ⟨L1, hL1⟩ : ∃ L1, L1 = y.vals ++ [n] := ⟨_, rfl⟩
      rw [← hL1] at hV
      have HZ := hide (show rTo b m (k + 1) = ⟨M, L1, false⟩ by rw [HO.out, HR9.out, hL1])
      clear hL1
      have zwk : IntKind.i64.wrap ((k : Int) + 1) = ((k + 1 : Nat) : Int) := by rw [IntKind.wrap_i64]; omega
      go_wp2_with fail
      go_round
      case rel => exact ⟨k + 1, ⟨M, L1, false⟩, B5, B6, d5, d6, by go_num, by omega, HZ, hide rfl, hV, hM, he3, by omega, hBb_3, hFb_3, hBm_3, hFm_3⟩
      case measure => (simp [intOf]; try omega)
    · 
      have q1 : decide ((k : Int) < (b.ops.length : Int)) = false := decide_eq_false (by omega)
      obtain rfl : k = b.ops.length := by omega
      have hcy : 0 ≤ y.m.count ∧ y.m.count ≤ 1000000 - b.len := by have := hR.out.count; omega
      have hpy : 0 ≤ y.m.pc ∧ y.m.pc ≤ 64 := by have := hR.out.pc; have := HP.out; omega
      have HVe := hide (show rEnd b (rTo b m b.ops.length) = { y.m with pc := rGo b y.vals, count := y.m.count + b.len } by rw [HY.out]; unfold rEnd; rw [if_neg (by rw [HL.out]; simp)])
      have zw2 : IntKind.i64.wrap (y.m.count + b.len) = y.m.count + b.len := by rw [IntKind.wrap_i64]; omega
      have hbV : bm ≠ w0.heap.size := by omega
      have hend := ok_end hbk.out
      have hX := fun q => end_x hend q
      have hY := fun q => end_y hend q
      have hf := end_fin hend
      have HPV := hide (padV_full hyl.out)
      rw [HPV.out] at hV hpl
      have hyq : y.vals.length ≤ b.ops.length ∧ b.ops.length ≤ y.vals.length := by have := hyl.out; omega
      clear hend
      have yb : w.heap.size < w2.heap.size := by omega
      have xb0 := hBb_2 0 _ rfl
      have xb1 := hBb_2 1 _ rfl
      have xb2 := hBb_2 2 _ rfl
      have xb3 := hBb_2 3 _ rfl
      have xb4 := hBb_2 4 _ rfl
      have xb5 := hBb_2 5 _ rfl
      have xb6 := hBb_2 6 _ rfl
      have fb := hFb_2
      have ym : bm < w2.heap.size := by omega
      have xm0 := hBm_2 0 _ rfl
      have xm1 := hBm_2 1 _ rfl
      have xm2 := hBm_2 2 _ rfl
      have xm3 := hBm_2 3 _ rfl
      have xm4 := hBm_2 4 _ rfl
      have xm5 := hBm_2 5 _ rfl
      have xm6 := hBm_2 6 _ rfl
      have xm7 := hBm_2 7 _ rfl
      have xm8 := hBm_2 8 _ rfl
      have xm9 := hBm_2 9 _ rfl
      have fm := hFm_2
      go_upto_region 33 with fail
      have hS : ∀ w', Ext w2 w' → ∀ bb oo, bb < w2.heap.size → w'.cell? ⟨bb, oo, none⟩ = w2.cell? ⟨bb, oo, none⟩ := fun w' hx bb oo hb => hx.cell hb
      refine wp_region_plan (fun w' => Ext w2 w') 6 (.float 0 (.float 1 (.float 2 (.float 3 (.float 4 (.float 5 (.tail 6))))))) (by kernel_rfl) (by kernel_rfl) (Ext.refl _).drew ?_
      iterate 6 ((refine Plan.float_step (v := ?_) rfl (by rfl) (fun _ _ _ h => h) (fun w' hSw => ?_) ?_; rotate_left; · (go_simp; try with_reducible rfl)); (try simp only [Act.put, List.setIfInBounds_toArray, List.set_cons_zero, List.set_cons_succ]))
      refine Plan.tail_step ?_
      simp only [List.drop_succ_cons, List.drop_zero]
      clear hS
      go_upto_region 34 with fail
      clear xb0 xb1 xb2 xb3 xb4 xb5 xb6 yb
      clear fb
      clear xm0 xm1 xm2 xm3 xm4 xm5 xm6 xm7 xm8 xm9 ym
      clear fm
      have he3 : Ext wb (World.drew (w2.setCell ⟨bm, 9, none⟩ (.int .i64 (y.m.count + b.len)))) := Ext.hold he2
      have hs3 : w2.heap.size + 0 ≤ ((World.drew (w2.setCell ⟨bm, 9, none⟩ (.int .i64 (y.m.count + b.len))))).heap.size := by simp
      have hBb_3 : Bx (World.drew (w2.setCell ⟨bm, 9, none⟩ (.int .i64 (y.m.count + b.len)))) (w.heap.size) [.int .i64 b.pc, .int .i64 b.len, (.slice Ab1 b.ops.length cb1), .int .i64 b.fin, .int .i64 b.x, .int .i64 b.y, .int .i64 b.k] := Bx.hold hBb_2
      have hFb_3 : ∀ oo, (World.drew (w2.setCell ⟨bm, 9, none⟩ (.int .i64 (y.m.count + b.len)))).frozen? ⟨w.heap.size, oo, none⟩ = false := fz_hold hFb_2
      have hBm_3 : Bx (World.drew (w2.setCell ⟨bm, 9, none⟩ (.int .i64 (y.m.count + b.len)))) (bm) [(.slice (some ⟨g1, o1, none⟩) 4 c1), .int .i64 y.m.pc, (.slice (some ⟨g2, o2, none⟩) 64 c2), .int .i64 y.m.save, .bool y.m.lets, .bool y.m.waits, .int .i64 y.m.halt, (.slice B3 y.m.ins.length d3), (.slice B4 y.m.outs.length d4), .int .i64 (y.m.count + b.len)] := Bx.drew (by have := (Bx.put hBm_2 (j := 9) (by simp) (.int .i64 (y.m.count + b.len))); simpa using this)
      have hFm_3 : ∀ oo, (World.drew (w2.setCell ⟨bm, 9, none⟩ (.int .i64 (y.m.count + b.len)))).frozen? ⟨bm, oo, none⟩ = false := fz_hold hFm_2
      have hMq := ((hM.far hbX (p := ⟨bm, 9, none⟩) _).drew : Mach _ _ _ (World.drew (w2.setCell ⟨bm, 9, none⟩ (.int .i64 (y.m.count + b.len)))) _ _ _ _ _ _ _ _ _)
      have hVq := ((hV.far (p := ⟨bm, 9, none⟩) hbV _).drew : FRow (World.drew (w2.setCell ⟨bm, 9, none⟩ (.int .i64 (y.m.count + b.len)))) _ _ _)
      generalize (World.drew (w2.setCell ⟨bm, 9, none⟩ (.int .i64 (y.m.count + b.len)))) = w3 at *
      clear hBb_2 hFb_2 hBm_2 hFm_2 hM hV
      have hM := hMq
      clear hMq
      have hV := hVq
      clear hVq
      have hc : b.fin = 1 ∨ b.fin = 2 ∨ b.fin = 3 ∨ b.fin = 4 := by omega
      clear hf
      rcases hc with e | e | e | e
      · as_aux_lemma =>
          have HV := hide (show rGo b y.vals = b.k by unfold rGo; simp [e])
          have qX : endX b.fin = false := by rw [e]; rfl
          have qY : endY b.fin = false := by rw [e]; rfl
          have q2 : (b.fin == 1) = true := by rw [e]; rfl
          have q3 : (b.fin == 2) = false := by rw [e]; rfl
          have q4 : (b.fin == 3) = false := by rw [e]; rfl
          have q5 : (b.fin == 4) = false := by rw [e]; rfl
          clear e
          clear hX hY qX qY
          have yv := hV.lt
          have yb : w.heap.size < w3.heap.size := by omega
          have xb0 := hBb_3 0 _ rfl
          have xb1 := hBb_3 1 _ rfl
          have xb2 := hBb_3 2 _ rfl
          have xb3 := hBb_3 3 _ rfl
          have xb4 := hBb_3 4 _ rfl
          have xb5 := hBb_3 5 _ rfl
          have xb6 := hBb_3 6 _ rfl
          have fb := hFb_3
          have ym : bm < w3.heap.size := by omega
          have xm0 := hBm_3 0 _ rfl
          have xm1 := hBm_3 1 _ rfl
          have xm2 := hBm_3 2 _ rfl
          have xm3 := hBm_3 3 _ rfl
          have xm4 := hBm_3 4 _ rfl
          have xm5 := hBm_3 5 _ rfl
          have xm6 := hBm_3 6 _ rfl
          have xm7 := hBm_3 7 _ rfl
          have xm8 := hBm_3 8 _ rfl
          have xm9 := hBm_3 9 _ rfl
          have fm := hFm_3
          go_wp2_with fail
          clear xb0 xb1 xb2 xb3 xb4 xb5 xb6 yb
          clear fb
          clear xm0 xm1 xm2 xm3 xm4 xm5 xm6 xm7 xm8 xm9 ym
          clear fm
          have he4 : Ext wb (w3.setCell ⟨bm, 1, none⟩ (.int .i64 b.k)) := Ext.hold he3
          have hs4 : w3.heap.size + 0 ≤ ((w3.setCell ⟨bm, 1, none⟩ (.int .i64 b.k))).heap.size := by simp
          have hBb_4 : Bx (w3.setCell ⟨bm, 1, none⟩ (.int .i64 b.k)) (w.heap.size) [.int .i64 b.pc, .int .i64 b.len, (.slice Ab1 b.ops.length cb1), .int .i64 b.fin, .int .i64 b.x, .int .i64 b.y, .int .i64 b.k] := Bx.hold hBb_3
          have hFb_4 : ∀ oo, (w3.setCell ⟨bm, 1, none⟩ (.int .i64 b.k)).frozen? ⟨w.heap.size, oo, none⟩ = false := fz_hold hFb_3
          have hBm_4 : Bx (w3.setCell ⟨bm, 1, none⟩ (.int .i64 b.k)) (bm) [(.slice (some ⟨g1, o1, none⟩) 4 c1), .int .i64 b.k, (.slice (some ⟨g2, o2, none⟩) 64 c2), .int .i64 y.m.save, .bool y.m.lets, .bool y.m.waits, .int .i64 y.m.halt, (.slice B3 y.m.ins.length d3), (.slice B4 y.m.outs.length d4), .int .i64 (y.m.count + b.len)] := (by have := (Bx.put hBm_3 (j := 1) (by simp) (.int .i64 b.k)); simpa using this)
          have hFm_4 : ∀ oo, (w3.setCell ⟨bm, 1, none⟩ (.int .i64 b.k)).frozen? ⟨bm, oo, none⟩ = false := fz_hold hFm_3
          have hMq := (hM.far hbX (p := ⟨bm, 1, none⟩) _ : Mach _ _ _ (w3.setCell ⟨bm, 1, none⟩ (.int .i64 b.k)) _ _ _ _ _ _ _ _ _)
          have hVq := (hV.far (p := ⟨bm, 1, none⟩) hbV _ : FRow (w3.setCell ⟨bm, 1, none⟩ (.int .i64 b.k)) _ _ _)
          generalize (w3.setCell ⟨bm, 1, none⟩ (.int .i64 b.k)) = w4 at *
          clear hBb_3 hFb_3 hBm_3 hFm_3 hM hV
          have hM := hMq
          clear hMq
          have hV := hVq
          clear hVq
          have HVz := hide (show rEnd b (rTo b m b.ops.length) = ({ y.m with pc := b.k, count := y.m.count + b.len } : MchMach) by rw [HVe.out, HV.out])
          (try simp only [Exit.inBlock, Exit.then])
          refine bodyPost_end (results_none rfl _ _ _) rfl ?_
          rw [HVz.out]
          exact ⟨rfl, _, _, hBm_4, hFm_4, (hM.same (m' := ({ y.m with pc := b.k, count := y.m.count + b.len } : MchMach)) rfl rfl rfl rfl).dropX.dropX, he4, by omega⟩
      · as_aux_lemma =>
          have HV := hide (show rGo b y.vals = gI y.vals b.x by unfold rGo; simp [e])
          have qX : endX b.fin = true := by rw [e]; rfl
          have qY : endY b.fin = false := by rw [e]; rfl
          have q2 : (b.fin == 1) = false := by rw [e]; rfl
          have q3 : (b.fin == 2) = true := by rw [e]; rfl
          have q4 : (b.fin == 3) = false := by rw [e]; rfl
          have q5 : (b.fin == 4) = false := by rw [e]; rfl
          clear e
          have ix := hX qX
          obtain ⟨X0, hX0⟩ := Int.eq_ofNat_of_zero_le ix.1
          have hXl : X0 < y.vals.length := by omega
          have rX := hV.int0 hXl
          have HGX := hide (show gI y.vals b.x = y.vals[X0] by rw [hX0]; exact gI_nat _ _ hXl)
          have x0_ : 0 ≤ b.x := ix.1
          have x1_ : b.x < (b.ops.length : Int) := ix.2
          have x2_ : b.x.toNat = X0 := by omega
          have hwX := hR.out.words _ (List.getElem_mem hXl)
          clear ix hX0
          clear hX hY qX qY
          have yv := hV.lt
          have HW := hide (HV.out.trans HGX.out)
          have yb : w.heap.size < w3.heap.size := by omega
          have xb0 := hBb_3 0 _ rfl
          have xb1 := hBb_3 1 _ rfl
          have xb2 := hBb_3 2 _ rfl
          have xb3 := hBb_3 3 _ rfl
          have xb4 := hBb_3 4 _ rfl
          have xb5 := hBb_3 5 _ rfl
          have xb6 := hBb_3 6 _ rfl
          have fb := hFb_3
          have ym : bm < w3.heap.size := by omega
          have xm0 := hBm_3 0 _ rfl
          have xm1 := hBm_3 1 _ rfl
          have xm2 := hBm_3 2 _ rfl
          have xm3 := hBm_3 3 _ rfl
          have xm4 := hBm_3 4 _ rfl
          have xm5 := hBm_3 5 _ rfl
          have xm6 := hBm_3 6 _ rfl
          have xm7 := hBm_3 7 _ rfl
          have xm8 := hBm_3 8 _ rfl
          have xm9 := hBm_3 9 _ rfl
          have fm := hFm_3
          go_wp2_with fail
          clear xb0 xb1 xb2 xb3 xb4 xb5 xb6 yb
          clear fb
          clear xm0 xm1 xm2 xm3 xm4 xm5 xm6 xm7 xm8 xm9 ym
          clear fm
          have he4 : Ext wb (w3.setCell ⟨bm, 1, none⟩ (.int .i64 y.vals[X0])) := Ext.hold he3
          have hs4 : w3.heap.size + 0 ≤ ((w3.setCell ⟨bm, 1, none⟩ (.int .i64 y.vals[X0]))).heap.size := by simp
          have hBb_4 : Bx (w3.setCell ⟨bm, 1, none⟩ (.int .i64 y.vals[X0])) (w.heap.size) [.int .i64 b.pc, .int .i64 b.len, (.slice Ab1 b.ops.length cb1), .int .i64 b.fin, .int .i64 b.x, .int .i64 b.y, .int .i64 b.k] := Bx.hold hBb_3
          have hFb_4 : ∀ oo, (w3.setCell ⟨bm, 1, none⟩ (.int .i64 y.vals[X0])).frozen? ⟨w.heap.size, oo, none⟩ = false := fz_hold hFb_3
          have hBm_4 : Bx (w3.setCell ⟨bm, 1, none⟩ (.int .i64 y.vals[X0])) (bm) [(.slice (some ⟨g1, o1, none⟩) 4 c1), .int .i64 y.vals[X0], (.slice (some ⟨g2, o2, none⟩) 64 c2), .int .i64 y.m.save, .bool y.m.lets, .bool y.m.waits, .int .i64 y.m.halt, (.slice B3 y.m.ins.length d3), (.slice B4 y.m.outs.length d4), .int .i64 (y.m.count + b.len)] := (by have := (Bx.put hBm_3 (j := 1) (by simp) (.int .i64 y.vals[X0])); simpa using this)
          have hFm_4 : ∀ oo, (w3.setCell ⟨bm, 1, none⟩ (.int .i64 y.vals[X0])).frozen? ⟨bm, oo, none⟩ = false := fz_hold hFm_3
          have hMq := (hM.far hbX (p := ⟨bm, 1, none⟩) _ : Mach _ _ _ (w3.setCell ⟨bm, 1, none⟩ (.int .i64 y.vals[X0])) _ _ _ _ _ _ _ _ _)
          have hVq := (hV.far (p := ⟨bm, 1, none⟩) hbV _ : FRow (w3.setCell ⟨bm, 1, none⟩ (.int .i64 y.vals[X0])) _ _ _)
          generalize (w3.setCell ⟨bm, 1, none⟩ (.int .i64 y.vals[X0])) = w4 at *
          clear hBb_3 hFb_3 hBm_3 hFm_3 hM hV
          have hM := hMq
          clear hMq
          have hV := hVq
          clear hVq
          have HVz := hide (show rEnd b (rTo b m b.ops.length) = ({ y.m with pc := y.vals[X0], count := y.m.count + b.len } : MchMach) by rw [HVe.out, HW.out])
          (try simp only [Exit.inBlock, Exit.then])
          refine bodyPost_end (results_none rfl _ _ _) rfl ?_
          rw [HVz.out]
          exact ⟨rfl, _, _, hBm_4, hFm_4, (hM.same (m' := ({ y.m with pc := y.vals[X0], count := y.m.count + b.len } : MchMach)) rfl rfl rfl rfl).dropX.dropX, he4, by omega⟩
      · as_aux_lemma =>
          have HV := hide (show rGo b y.vals = if gI y.vals b.x = gI y.vals b.y then b.k else b.pc + b.len by unfold rGo; simp [e])
          have qX : endX b.fin = true := by rw [e]; rfl
          have qY : endY b.fin = true := by rw [e]; rfl
          have q2 : (b.fin == 1) = false := by rw [e]; rfl
          have q3 : (b.fin == 2) = false := by rw [e]; rfl
          have q4 : (b.fin == 3) = true := by rw [e]; rfl
          have q5 : (b.fin == 4) = false := by rw [e]; rfl
          have zf1 : IntKind.i64.wrap (b.fin - 3) = 0 := by rw [IntKind.wrap_i64]; omega
          have zf2 : IntKind.i64.wrap (0 + 1) = 1 := by rw [IntKind.wrap_i64] <;> omega
          have zf3 : IntKind.i64.wrap (b.pc + b.len) = b.pc + b.len := by rw [IntKind.wrap_i64]; omega
          clear e
          have ix := hX qX
          obtain ⟨X0, hX0⟩ := Int.eq_ofNat_of_zero_le ix.1
          have hXl : X0 < y.vals.length := by omega
          have rX := hV.int0 hXl
          have HGX := hide (show gI y.vals b.x = y.vals[X0] by rw [hX0]; exact gI_nat _ _ hXl)
          have x0_ : 0 ≤ b.x := ix.1
          have x1_ : b.x < (b.ops.length : Int) := ix.2
          have x2_ : b.x.toNat = X0 := by omega
          have hwX := hR.out.words _ (List.getElem_mem hXl)
          clear ix hX0
          have iy := hY qY
          obtain ⟨Y0, hY0⟩ := Int.eq_ofNat_of_zero_le iy.1
          have hYl : Y0 < y.vals.length := by omega
          have rY := hV.int0 hYl
          have HGY := hide (show gI y.vals b.y = y.vals[Y0] by rw [hY0]; exact gI_nat _ _ hYl)
          have y0_ : 0 ≤ b.y := iy.1
          have y1_ : b.y < (b.ops.length : Int) := iy.2
          have y2_ : b.y.toNat = Y0 := by omega
          have hwY := hR.out.words _ (List.getElem_mem hYl)
          clear iy hY0
          clear hX hY qX qY
          have yv := hV.lt
          have yb : w.heap.size < w3.heap.size := by omega
          have xb0 := hBb_3 0 _ rfl
          have xb1 := hBb_3 1 _ rfl
          have xb2 := hBb_3 2 _ rfl
          have xb3 := hBb_3 3 _ rfl
          have xb4 := hBb_3 4 _ rfl
          have xb5 := hBb_3 5 _ rfl
          have xb6 := hBb_3 6 _ rfl
          have fb := hFb_3
          have ym : bm < w3.heap.size := by omega
          have xm0 := hBm_3 0 _ rfl
          have xm1 := hBm_3 1 _ rfl
          have xm2 := hBm_3 2 _ rfl
          have xm3 := hBm_3 3 _ rfl
          have xm4 := hBm_3 4 _ rfl
          have xm5 := hBm_3 5 _ rfl
          have xm6 := hBm_3 6 _ rfl
          have xm7 := hBm_3 7 _ rfl
          have xm8 := hBm_3 8 _ rfl
          have xm9 := hBm_3 9 _ rfl
          have fm := hFm_3
          go_upto_region 36 with fail
          clear xb0 xb1 xb2 xb3 xb4 xb5 xb6 yb
          clear fb
          clear xm0 xm1 xm2 xm3 xm4 xm5 xm6 xm7 xm8 xm9 ym
          clear fm
          have he4 : Ext wb (w3.setCell ⟨bm, 1, none⟩ (.int .i64 (b.pc + b.len))) := Ext.hold he3
          have hs4 : w3.heap.size + 0 ≤ ((w3.setCell ⟨bm, 1, none⟩ (.int .i64 (b.pc + b.len)))).heap.size := by simp
          have hBb_4 : Bx (w3.setCell ⟨bm, 1, none⟩ (.int .i64 (b.pc + b.len))) (w.heap.size) [.int .i64 b.pc, .int .i64 b.len, (.slice Ab1 b.ops.length cb1), .int .i64 b.fin, .int .i64 b.x, .int .i64 b.y, .int .i64 b.k] := Bx.hold hBb_3
          have hFb_4 : ∀ oo, (w3.setCell ⟨bm, 1, none⟩ (.int .i64 (b.pc + b.len))).frozen? ⟨w.heap.size, oo, none⟩ = false := fz_hold hFb_3
          have hBm_4 : Bx (w3.setCell ⟨bm, 1, none⟩ (.int .i64 (b.pc + b.len))) (bm) [(.slice (some ⟨g1, o1, none⟩) 4 c1), .int .i64 (b.pc + b.len), (.slice (some ⟨g2, o2, none⟩) 64 c2), .int .i64 y.m.save, .bool y.m.lets, .bool y.m.waits, .int .i64 y.m.halt, (.slice B3 y.m.ins.length d3), (.slice B4 y.m.outs.length d4), .int .i64 (y.m.count + b.len)] := (by have := (Bx.put hBm_3 (j := 1) (by simp) (.int .i64 (b.pc + b.len))); simpa using this)
          have hFm_4 : ∀ oo, (w3.setCell ⟨bm, 1, none⟩ (.int .i64 (b.pc + b.len))).frozen? ⟨bm, oo, none⟩ = false := fz_hold hFm_3
          have hMq := (hM.far hbX (p := ⟨bm, 1, none⟩) _ : Mach _ _ _ (w3.setCell ⟨bm, 1, none⟩ (.int .i64 (b.pc + b.len))) _ _ _ _ _ _ _ _ _)
          have hVq := (hV.far (p := ⟨bm, 1, none⟩) hbV _ : FRow (w3.setCell ⟨bm, 1, none⟩ (.int .i64 (b.pc + b.len))) _ _ _)
          generalize (w3.setCell ⟨bm, 1, none⟩ (.int .i64 (b.pc + b.len))) = w4 at *
          clear hBb_3 hFb_3 hBm_3 hFm_3 hM hV
          have hM := hMq
          clear hMq
          have hV := hVq
          clear hVq
          replace yv := hV.lt
          replace rX := hV.int0 hXl
          replace rY := hV.int0 hYl
          have yb : w.heap.size < w4.heap.size := by omega
          have xb0 := hBb_4 0 _ rfl
          have xb1 := hBb_4 1 _ rfl
          have xb2 := hBb_4 2 _ rfl
          have xb3 := hBb_4 3 _ rfl
          have xb4 := hBb_4 4 _ rfl
          have xb5 := hBb_4 5 _ rfl
          have xb6 := hBb_4 6 _ rfl
          have fb := hFb_4
          go_upto_region 36 with fail
          have hS : ∀ w', Ext w4 w' → ∀ bb oo, bb < w4.heap.size → w'.cell? ⟨bb, oo, none⟩ = w4.cell? ⟨bb, oo, none⟩ := fun w' hx bb oo hb => hx.cell hb
          refine wp_region_plan (fun w' => Ext w4 w') 14 (.float 0 (.float 1 (.float 2 (.float 3 (.float 4 (.float 5 (.float 6 (.float 7 (.float 8 (.float 9 (.float 10 (.float 11 (.float 12 (.float 13 (.tail 14))))))))))))))) (by kernel_rfl) (by kernel_rfl) (Ext.refl _).drew ?_
          iterate 14 ((refine Plan.float_step (v := ?_) rfl (by rfl) (fun _ _ _ h => h) (fun w' hSw => ?_) ?_; rotate_left; · (go_simp; try with_reducible rfl)); (try simp only [Act.put, List.setIfInBounds_toArray, List.set_cons_zero, List.set_cons_succ]))
          refine Plan.tail_step ?_
          simp only [List.drop_succ_cons, List.drop_zero]
          clear hS
          go_wp2_with fail
          refine (rel1 y.vals[X0] y.vals[Y0] (wordB_yes hwX.1 hwX.2) (wordB_yes hwY.1 hwY.2) _).mono ?_
          rintro e w' ⟨rfl, rfl⟩
          clear xb0 xb1 xb2 xb3 xb4 xb5 xb6 yb
          clear fb
          have he5 : Ext wb (World.drew w4) := Ext.hold he4
          have hs5 : w4.heap.size + 0 ≤ ((World.drew w4)).heap.size := by simp
          have hBb_5 : Bx (World.drew w4) (w.heap.size) [.int .i64 b.pc, .int .i64 b.len, (.slice Ab1 b.ops.length cb1), .int .i64 b.fin, .int .i64 b.x, .int .i64 b.y, .int .i64 b.k] := Bx.hold hBb_4
          have hFb_5 : ∀ oo, (World.drew w4).frozen? ⟨w.heap.size, oo, none⟩ = false := fz_hold hFb_4
          have hBm_5 : Bx (World.drew w4) (bm) [(.slice (some ⟨g1, o1, none⟩) 4 c1), .int .i64 (b.pc + b.len), (.slice (some ⟨g2, o2, none⟩) 64 c2), .int .i64 y.m.save, .bool y.m.lets, .bool y.m.waits, .int .i64 y.m.halt, (.slice B3 y.m.ins.length d3), (.slice B4 y.m.outs.length d4), .int .i64 (y.m.count + b.len)] := Bx.hold hBm_4
          have hFm_5 : ∀ oo, (World.drew w4).frozen? ⟨bm, oo, none⟩ = false := fz_hold hFm_4
          have hMq := (hM.drew : Mach _ _ _ (World.drew w4) _ _ _ _ _ _ _ _ _)
          have hVq := (hV.drew : FRow (World.drew w4) _ _ _)
          generalize (World.drew w4) = w5 at *
          clear hBb_4 hFb_4 hBm_4 hFm_4 hM hV
          have hM := hMq
          clear hMq
          have hV := hVq
          clear hVq
          by_cases hq : y.vals[X0] = y.vals[Y0]
          · 
            have d1 : decide (y.vals[X0] = y.vals[Y0]) = true := by simp [hq]
            have HW := hide (show rGo b y.vals = b.k by rw [HV.out, HGX.out, HGY.out, if_pos hq])
            clear hq
            have yb : w.heap.size < w5.heap.size := by omega
            have xb0 := hBb_5 0 _ rfl
            have xb1 := hBb_5 1 _ rfl
            have xb2 := hBb_5 2 _ rfl
            have xb3 := hBb_5 3 _ rfl
            have xb4 := hBb_5 4 _ rfl
            have xb5 := hBb_5 5 _ rfl
            have xb6 := hBb_5 6 _ rfl
            have fb := hFb_5
            have ym : bm < w5.heap.size := by omega
            have xm0 := hBm_5 0 _ rfl
            have xm1 := hBm_5 1 _ rfl
            have xm2 := hBm_5 2 _ rfl
            have xm3 := hBm_5 3 _ rfl
            have xm4 := hBm_5 4 _ rfl
            have xm5 := hBm_5 5 _ rfl
            have xm6 := hBm_5 6 _ rfl
            have xm7 := hBm_5 7 _ rfl
            have xm8 := hBm_5 8 _ rfl
            have xm9 := hBm_5 9 _ rfl
            have fm := hFm_5
            (try rw [d1])
            go_wp2_with fail
            clear xb0 xb1 xb2 xb3 xb4 xb5 xb6 yb
            clear fb
            clear xm0 xm1 xm2 xm3 xm4 xm5 xm6 xm7 xm8 xm9 ym
            clear fm
            have he6 : Ext wb (w5.setCell ⟨bm, 1, none⟩ (.int .i64 b.k)) := Ext.hold he5
            have hs6 : w5.heap.size + 0 ≤ ((w5.setCell ⟨bm, 1, none⟩ (.int .i64 b.k))).heap.size := by simp
            have hBb_6 : Bx (w5.setCell ⟨bm, 1, none⟩ (.int .i64 b.k)) (w.heap.size) [.int .i64 b.pc, .int .i64 b.len, (.slice Ab1 b.ops.length cb1), .int .i64 b.fin, .int .i64 b.x, .int .i64 b.y, .int .i64 b.k] := Bx.hold hBb_5
            have hFb_6 : ∀ oo, (w5.setCell ⟨bm, 1, none⟩ (.int .i64 b.k)).frozen? ⟨w.heap.size, oo, none⟩ = false := fz_hold hFb_5
            have hBm_6 : Bx (w5.setCell ⟨bm, 1, none⟩ (.int .i64 b.k)) (bm) [(.slice (some ⟨g1, o1, none⟩) 4 c1), .int .i64 b.k, (.slice (some ⟨g2, o2, none⟩) 64 c2), .int .i64 y.m.save, .bool y.m.lets, .bool y.m.waits, .int .i64 y.m.halt, (.slice B3 y.m.ins.length d3), (.slice B4 y.m.outs.length d4), .int .i64 (y.m.count + b.len)] := (by have := (Bx.put hBm_5 (j := 1) (by simp) (.int .i64 b.k)); simpa using this)
            have hFm_6 : ∀ oo, (w5.setCell ⟨bm, 1, none⟩ (.int .i64 b.k)).frozen? ⟨bm, oo, none⟩ = false := fz_hold hFm_5
            have hMq := (hM.far hbX (p := ⟨bm, 1, none⟩) _ : Mach _ _ _ (w5.setCell ⟨bm, 1, none⟩ (.int .i64 b.k)) _ _ _ _ _ _ _ _ _)
            have hVq := (hV.far (p := ⟨bm, 1, none⟩) hbV _ : FRow (w5.setCell ⟨bm, 1, none⟩ (.int .i64 b.k)) _ _ _)
            generalize (w5.setCell ⟨bm, 1, none⟩ (.int .i64 b.k)) = w6 at *
            clear hBb_5 hFb_5 hBm_5 hFm_5 hM hV
            have hM := hMq
            clear hMq
            have hV := hVq
            clear hVq
            have HVz := hide (show rEnd b (rTo b m b.ops.length) = ({ y.m with pc := b.k, count := y.m.count + b.len } : MchMach) by rw [HVe.out, HW.out])
            (try simp only [Exit.inBlock, Exit.then])
            refine bodyPost_end (results_none rfl _ _ _) rfl ?_
            rw [HVz.out]
            exact ⟨rfl, _, _, hBm_6, hFm_6, (hM.same (m' := ({ y.m with pc := b.k, count := y.m.count + b.len } : MchMach)) rfl rfl rfl rfl).dropX.dropX, he6, by omega⟩
          · 
            have d1 : decide (y.vals[X0] = y.vals[Y0]) = false := by simp [hq]
            have HW := hide (show rGo b y.vals = b.pc + b.len by rw [HV.out, HGX.out, HGY.out, if_neg hq])
            clear hq
            (try rw [d1])
            go_wp2_with fail
            have HVz := hide (show rEnd b (rTo b m b.ops.length) = ({ y.m with pc := (b.pc + b.len), count := y.m.count + b.len } : MchMach) by rw [HVe.out, HW.out])
            (try simp only [Exit.inBlock, Exit.then])
            refine bodyPost_end (results_none rfl _ _ _) rfl ?_
            rw [HVz.out]
            exact ⟨rfl, _, _, hBm_5, hFm_5, (hM.same (m' := ({ y.m with pc := (b.pc + b.len), count := y.m.count + b.len } : MchMach)) rfl rfl rfl rfl).dropX.dropX, he5, by omega⟩
      · as_aux_lemma =>
          have HV := hide (show rGo b y.vals = if gI y.vals b.x < gI y.vals b.y then b.k else b.pc + b.len by unfold rGo; simp [e])
          have qX : endX b.fin = true := by rw [e]; rfl
          have qY : endY b.fin = true := by rw [e]; rfl
          have q2 : (b.fin == 1) = false := by rw [e]; rfl
          have q3 : (b.fin == 2) = false := by rw [e]; rfl
          have q4 : (b.fin == 3) = false := by rw [e]; rfl
          have q5 : (b.fin == 4) = true := by rw [e]; rfl
          have zf1 : IntKind.i64.wrap (b.fin - 3) = 1 := by rw [IntKind.wrap_i64]; omega
          have zf2 : IntKind.i64.wrap (1 + 1) = 2 := by rw [IntKind.wrap_i64] <;> omega
          have zf3 : IntKind.i64.wrap (b.pc + b.len) = b.pc + b.len := by rw [IntKind.wrap_i64]; omega
          clear e
          have ix := hX qX
          obtain ⟨X0, hX0⟩ := Int.eq_ofNat_of_zero_le ix.1
          have hXl : X0 < y.vals.length := by omega
          have rX := hV.int0 hXl
          have HGX := hide (show gI y.vals b.x = y.vals[X0] by rw [hX0]; exact gI_nat _ _ hXl)
          have x0_ : 0 ≤ b.x := ix.1
          have x1_ : b.x < (b.ops.length : Int) := ix.2
          have x2_ : b.x.toNat = X0 := by omega
          have hwX := hR.out.words _ (List.getElem_mem hXl)
          clear ix hX0
          have iy := hY qY
          obtain ⟨Y0, hY0⟩ := Int.eq_ofNat_of_zero_le iy.1
          have hYl : Y0 < y.vals.length := by omega
          have rY := hV.int0 hYl
          have HGY := hide (show gI y.vals b.y = y.vals[Y0] by rw [hY0]; exact gI_nat _ _ hYl)
          have y0_ : 0 ≤ b.y := iy.1
          have y1_ : b.y < (b.ops.length : Int) := iy.2
          have y2_ : b.y.toNat = Y0 := by omega
          have hwY := hR.out.words _ (List.getElem_mem hYl)
          clear iy hY0
          clear hX hY qX qY
          have yv := hV.lt
          have yb : w.heap.size < w3.heap.size := by omega
          have xb0 := hBb_3 0 _ rfl
          have xb1 := hBb_3 1 _ rfl
          have xb2 := hBb_3 2 _ rfl
          have xb3 := hBb_3 3 _ rfl
          have xb4 := hBb_3 4 _ rfl
          have xb5 := hBb_3 5 _ rfl
          have xb6 := hBb_3 6 _ rfl
          have fb := hFb_3
          have ym : bm < w3.heap.size := by omega
          have xm0 := hBm_3 0 _ rfl
          have xm1 := hBm_3 1 _ rfl
          have xm2 := hBm_3 2 _ rfl
          have xm3 := hBm_3 3 _ rfl
          have xm4 := hBm_3 4 _ rfl
          have xm5 := hBm_3 5 _ rfl
          have xm6 := hBm_3 6 _ rfl
          have xm7 := hBm_3 7 _ rfl
          have xm8 := hBm_3 8 _ rfl
          have xm9 := hBm_3 9 _ rfl
          have fm := hFm_3
          go_upto_region 36 with fail
          clear xb0 xb1 xb2 xb3 xb4 xb5 xb6 yb
          clear fb
          clear xm0 xm1 xm2 xm3 xm4 xm5 xm6 xm7 xm8 xm9 ym
          clear fm
          have he4 : Ext wb (w3.setCell ⟨bm, 1, none⟩ (.int .i64 (b.pc + b.len))) := Ext.hold he3
          have hs4 : w3.heap.size + 0 ≤ ((w3.setCell ⟨bm, 1, none⟩ (.int .i64 (b.pc + b.len)))).heap.size := by simp
          have hBb_4 : Bx (w3.setCell ⟨bm, 1, none⟩ (.int .i64 (b.pc + b.len))) (w.heap.size) [.int .i64 b.pc, .int .i64 b.len, (.slice Ab1 b.ops.length cb1), .int .i64 b.fin, .int .i64 b.x, .int .i64 b.y, .int .i64 b.k] := Bx.hold hBb_3
          have hFb_4 : ∀ oo, (w3.setCell ⟨bm, 1, none⟩ (.int .i64 (b.pc + b.len))).frozen? ⟨w.heap.size, oo, none⟩ = false := fz_hold hFb_3
          have hBm_4 : Bx (w3.setCell ⟨bm, 1, none⟩ (.int .i64 (b.pc + b.len))) (bm) [(.slice (some ⟨g1, o1, none⟩) 4 c1), .int .i64 (b.pc + b.len), (.slice (some ⟨g2, o2, none⟩) 64 c2), .int .i64 y.m.save, .bool y.m.lets, .bool y.m.waits, .int .i64 y.m.halt, (.slice B3 y.m.ins.length d3), (.slice B4 y.m.outs.length d4), .int .i64 (y.m.count + b.len)] := (by have := (Bx.put hBm_3 (j := 1) (by simp) (.int .i64 (b.pc + b.len))); simpa using this)
          have hFm_4 : ∀ oo, (w3.setCell ⟨bm, 1, none⟩ (.int .i64 (b.pc + b.len))).frozen? ⟨bm, oo, none⟩ = false := fz_hold hFm_3
          have hMq := (hM.far hbX (p := ⟨bm, 1, none⟩) _ : Mach _ _ _ (w3.setCell ⟨bm, 1, none⟩ (.int .i64 (b.pc + b.len))) _ _ _ _ _ _ _ _ _)
          have hVq := (hV.far (p := ⟨bm, 1, none⟩) hbV _ : FRow (w3.setCell ⟨bm, 1, none⟩ (.int .i64 (b.pc + b.len))) _ _ _)
          generalize (w3.setCell ⟨bm, 1, none⟩ (.int .i64 (b.pc + b.len))) = w4 at *
          clear hBb_3 hFb_3 hBm_3 hFm_3 hM hV
          have hM := hMq
          clear hMq
          have hV := hVq
          clear hVq
          replace yv := hV.lt
          replace rX := hV.int0 hXl
          replace rY := hV.int0 hYl
          have yb : w.heap.size < w4.heap.size := by omega
          have xb0 := hBb_4 0 _ rfl
          have xb1 := hBb_4 1 _ rfl
          have xb2 := hBb_4 2 _ rfl
          have xb3 := hBb_4 3 _ rfl
          have xb4 := hBb_4 4 _ rfl
          have xb5 := hBb_4 5 _ rfl
          have xb6 := hBb_4 6 _ rfl
          have fb := hFb_4
          go_upto_region 36 with fail
          have hS : ∀ w', Ext w4 w' → ∀ bb oo, bb < w4.heap.size → w'.cell? ⟨bb, oo, none⟩ = w4.cell? ⟨bb, oo, none⟩ := fun w' hx bb oo hb => hx.cell hb
          refine wp_region_plan (fun w' => Ext w4 w') 14 (.float 0 (.float 1 (.float 2 (.float 3 (.float 4 (.float 5 (.float 6 (.float 7 (.float 8 (.float 9 (.float 10 (.float 11 (.float 12 (.float 13 (.tail 14))))))))))))))) (by kernel_rfl) (by kernel_rfl) (Ext.refl _).drew ?_
          iterate 14 ((refine Plan.float_step (v := ?_) rfl (by rfl) (fun _ _ _ h => h) (fun w' hSw => ?_) ?_; rotate_left; · (go_simp; try with_reducible rfl)); (try simp only [Act.put, List.setIfInBounds_toArray, List.set_cons_zero, List.set_cons_succ]))
          refine Plan.tail_step ?_
          simp only [List.drop_succ_cons, List.drop_zero]
          clear hS
          go_wp2_with fail
          refine (rel2 y.vals[X0] y.vals[Y0] (wordB_yes hwX.1 hwX.2) (wordB_yes hwY.1 hwY.2) _).mono ?_
          rintro e w' ⟨rfl, rfl⟩
          clear xb0 xb1 xb2 xb3 xb4 xb5 xb6 yb
          clear fb
          have he5 : Ext wb (World.drew w4) := Ext.hold he4
          have hs5 : w4.heap.size + 0 ≤ ((World.drew w4)).heap.size := by simp
          have hBb_5 : Bx (World.drew w4) (w.heap.size) [.int .i64 b.pc, .int .i64 b.len, (.slice Ab1 b.ops.length cb1), .int .i64 b.fin, .int .i64 b.x, .int .i64 b.y, .int .i64 b.k] := Bx.hold hBb_4
          have hFb_5 : ∀ oo, (World.drew w4).frozen? ⟨w.heap.size, oo, none⟩ = false := fz_hold hFb_4
          have hBm_5 : Bx (World.drew w4) (bm) [(.slice (some ⟨g1, o1, none⟩) 4 c1), .int .i64 (b.pc + b.len), (.slice (some ⟨g2, o2, none⟩) 64 c2), .int .i64 y.m.save, .bool y.m.lets, .bool y.m.waits, .int .i64 y.m.halt, (.slice B3 y.m.ins.length d3), (.slice B4 y.m.outs.length d4), .int .i64 (y.m.count + b.len)] := Bx.hold hBm_4
          have hFm_5 : ∀ oo, (World.drew w4).frozen? ⟨bm, oo, none⟩ = false := fz_hold hFm_4
          have hMq := (hM.drew : Mach _ _ _ (World.drew w4) _ _ _ _ _ _ _ _ _)
          have hVq := (hV.drew : FRow (World.drew w4) _ _ _)
          generalize (World.drew w4) = w5 at *
          clear hBb_4 hFb_4 hBm_4 hFm_4 hM hV
          have hM := hMq
          clear hMq
          have hV := hVq
          clear hVq
          by_cases hq : y.vals[X0] < y.vals[Y0]
          · 
            have d1 : decide (y.vals[X0] < y.vals[Y0]) = true := by simp [hq]
            have HW := hide (show rGo b y.vals = b.k by rw [HV.out, HGX.out, HGY.out, if_pos hq])
            clear hq
            have yb : w.heap.size < w5.heap.size := by omega
            have xb0 := hBb_5 0 _ rfl
            have xb1 := hBb_5 1 _ rfl
            have xb2 := hBb_5 2 _ rfl
            have xb3 := hBb_5 3 _ rfl
            have xb4 := hBb_5 4 _ rfl
            have xb5 := hBb_5 5 _ rfl
            have xb6 := hBb_5 6 _ rfl
            have fb := hFb_5
            have ym : bm < w5.heap.size := by omega
            have xm0 := hBm_5 0 _ rfl
            have xm1 := hBm_5 1 _ rfl
            have xm2 := hBm_5 2 _ rfl
            have xm3 := hBm_5 3 _ rfl
            have xm4 := hBm_5 4 _ rfl
            have xm5 := hBm_5 5 _ rfl
            have xm6 := hBm_5 6 _ rfl
            have xm7 := hBm_5 7 _ rfl
            have xm8 := hBm_5 8 _ rfl
            have xm9 := hBm_5 9 _ rfl
            have fm := hFm_5
            (try rw [d1])
            go_wp2_with fail
            clear xb0 xb1 xb2 xb3 xb4 xb5 xb6 yb
            clear fb
            clear xm0 xm1 xm2 xm3 xm4 xm5 xm6 xm7 xm8 xm9 ym
            clear fm
            have he6 : Ext wb (w5.setCell ⟨bm, 1, none⟩ (.int .i64 b.k)) := Ext.hold he5
            have hs6 : w5.heap.size + 0 ≤ ((w5.setCell ⟨bm, 1, none⟩ (.int .i64 b.k))).heap.size := by simp
            have hBb_6 : Bx (w5.setCell ⟨bm, 1, none⟩ (.int .i64 b.k)) (w.heap.size) [.int .i64 b.pc, .int .i64 b.len, (.slice Ab1 b.ops.length cb1), .int .i64 b.fin, .int .i64 b.x, .int .i64 b.y, .int .i64 b.k] := Bx.hold hBb_5
            have hFb_6 : ∀ oo, (w5.setCell ⟨bm, 1, none⟩ (.int .i64 b.k)).frozen? ⟨w.heap.size, oo, none⟩ = false := fz_hold hFb_5
            have hBm_6 : Bx (w5.setCell ⟨bm, 1, none⟩ (.int .i64 b.k)) (bm) [(.slice (some ⟨g1, o1, none⟩) 4 c1), .int .i64 b.k, (.slice (some ⟨g2, o2, none⟩) 64 c2), .int .i64 y.m.save, .bool y.m.lets, .bool y.m.waits, .int .i64 y.m.halt, (.slice B3 y.m.ins.length d3), (.slice B4 y.m.outs.length d4), .int .i64 (y.m.count + b.len)] := (by have := (Bx.put hBm_5 (j := 1) (by simp) (.int .i64 b.k)); simpa using this)
            have hFm_6 : ∀ oo, (w5.setCell ⟨bm, 1, none⟩ (.int .i64 b.k)).frozen? ⟨bm, oo, none⟩ = false := fz_hold hFm_5
            have hMq := (hM.far hbX (p := ⟨bm, 1, none⟩) _ : Mach _ _ _ (w5.setCell ⟨bm, 1, none⟩ (.int .i64 b.k)) _ _ _ _ _ _ _ _ _)
            have hVq := (hV.far (p := ⟨bm, 1, none⟩) hbV _ : FRow (w5.setCell ⟨bm, 1, none⟩ (.int .i64 b.k)) _ _ _)
            generalize (w5.setCell ⟨bm, 1, none⟩ (.int .i64 b.k)) = w6 at *
            clear hBb_5 hFb_5 hBm_5 hFm_5 hM hV
            have hM := hMq
            clear hMq
            have hV := hVq
            clear hVq
            have HVz := hide (show rEnd b (rTo b m b.ops.length) = ({ y.m with pc := b.k, count := y.m.count + b.len } : MchMach) by rw [HVe.out, HW.out])
            (try simp only [Exit.inBlock, Exit.then])
            refine bodyPost_end (results_none rfl _ _ _) rfl ?_
            rw [HVz.out]
            exact ⟨rfl, _, _, hBm_6, hFm_6, (hM.same (m' := ({ y.m with pc := b.k, count := y.m.count + b.len } : MchMach)) rfl rfl rfl rfl).dropX.dropX, he6, by omega⟩
          · 
            have d1 : decide (y.vals[X0] < y.vals[Y0]) = false := decide_eq_false hq
            have HW := hide (show rGo b y.vals = b.pc + b.len by rw [HV.out, HGX.out, HGY.out, if_neg hq])
            clear hq
            (try rw [d1])
            go_wp2_with fail
            have HVz := hide (show rEnd b (rTo b m b.ops.length) = ({ y.m with pc := (b.pc + b.len), count := y.m.count + b.len } : MchMach) by rw [HVe.out, HW.out])
            (try simp only [Exit.inBlock, Exit.then])
            refine bodyPost_end (results_none rfl _ _ _) rfl ?_
            rw [HVz.out]
            exact ⟨rfl, _, _, hBm_5, hFm_5, (hM.same (m' := ({ y.m with pc := (b.pc + b.len), count := y.m.count + b.len } : MchMach)) rfl rfl rfl rfl).dropX.dropX, he5, by omega⟩

end Go.Proofs.Yteaacelfnkiboaa
