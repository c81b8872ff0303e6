/-
  A new engine: the program and the reference.
-/
import Derived.Test.YtpneijbjheeobaaMachOk
import Derived.Test.YtpneijbjheeobaaMachCopy
namespace Go.Proofs.Ytpneijbjheeobaa
open Go.RowKit

set_option linter.unusedVariables false
set_option linter.unusedSimpArgs false
set_option maxRecDepth 100000

def emptyMach : MchMach := ⟨[], 0, [], 0, false, false, 0, [], [], 0⟩
def engNew (m : MchMach) : EngEng := if mchOkB m then ⟨m, [], []⟩ else ⟨emptyMach, [], []⟩
theorem engNew_yes {m : MchMach} (h : mchOkB m = true) : engNew m = ⟨m, [], []⟩ := by unfold engNew; rw [if_pos h]
theorem engNew_no {m : MchMach} (h : mchOkB m = false) : engNew m = ⟨emptyMach, [], []⟩ := by unfold engNew; rw [if_neg (by rw [h]; simp)]
theorem blk_engNew (m : MchMach) : Bulk.blk (engNew m) ≤ Bulk.blk m := by
  cases h : mchOkB m with
  | true => rw [engNew_yes h]; exact Nat.le_refl _
  | false => rw [engNew_no h]; exact Nat.zero_le _

set_option maxHeartbeats 16000000 in
theorem implEngNew_any (m : MchMach) (vm1 vm2 vm3 vm4 : Value) (w : World) (hm1 : Sl w (Old w) vm1 m.regs) (hm2 : Sl w (Old w) vm2 m.mem) (hm3 : Sl w (Old w) vm3 m.ins) (hm4 : Sl w (Old w) vm4 m.outs) (hkm : m.Ok) (hn : Bulk.blk m ≤ 4194300) :
    Calls Try.prog 12 #[.agg #[vm1, .int .i64 m.pc, vm2, .int .i64 m.save, .bool m.lets, .bool m.waits, .int .i64 m.halt, vm3, vm4, .int .i64 m.count]] w fun e w' => ∃ (r1 r2 r3 r4 r5 r6 : Value) (F1 F2 F3 F4 F5 F6 : List Nat), e = .returned (.agg #[r1, .int .i64 ((engNew m).mach.pc), r2, .int .i64 ((engNew m).mach.save), .bool (engNew m).mach.lets, .bool (engNew m).mach.waits, .int .i64 ((engNew m).mach.halt), r3, r4, .int .i64 ((engNew m).mach.count), r5, r6]) ∧ OwnSl w' r1 (engNew m).mach.regs F1 ∧ OwnSl w' r2 (engNew m).mach.mem F2 ∧ OwnSl w' r3 (engNew m).mach.ins F3 ∧ OwnSl w' r4 (engNew m).mach.outs F4 ∧ OwnSl w' r5 (engNew m).cache F5 ∧ OwnSl w' r6 (engNew m).certs F6 ∧ Fr w w' (F1 ++ F2 ++ F3 ++ F4 ++ F5 ++ F6) ∧ Ext w w' := by
  obtain ⟨Am1, cm1, rfl, hlm1, hmm1⟩ := hm1.form
  obtain ⟨Am2, cm2, rfl, hlm2, hmm2⟩ := hm2.form
  obtain ⟨Am3, cm3, rfl, hlm3, hmm3⟩ := hm3.form
  obtain ⟨Am4, cm4, rfl, hlm4, hmm4⟩ := hm4.form
  go_enter Try.func12, Try.ntmps12
  go_wp2_with fail
  have he0 : Ext w ((w.alloc (Obj.cells #[(.slice Am1 m.regs.length cm1), .int .i64 m.pc, (.slice Am2 m.mem.length cm2), .int .i64 m.save, .bool m.lets, .bool m.waits, .int .i64 m.halt, (.slice Am3 m.ins.length cm3), (.slice Am4 m.outs.length cm4), .int .i64 m.count] 26)).alloc (Obj.cells #[.slice none 0 0, .int .i64 0, .slice none 0 0, .int .i64 0, .bool false, .bool false, .int .i64 0, .slice none 0 0, .slice none 0 0, .int .i64 0, .slice none 0 0, .slice none 0 0] 30)) := (Ext.auto)
  have hs0 : w.heap.size + 2 ≤ (((w.alloc (Obj.cells #[(.slice Am1 m.regs.length cm1), .int .i64 m.pc, (.slice Am2 m.mem.length cm2), .int .i64 m.save, .bool m.lets, .bool m.waits, .int .i64 m.halt, (.slice Am3 m.ins.length cm3), (.slice Am4 m.outs.length cm4), .int .i64 m.count] 26)).alloc (Obj.cells #[.slice none 0 0, .int .i64 0, .slice none 0 0, .int .i64 0, .bool false, .bool false, .int .i64 0, .slice none 0 0, .slice none 0 0, .int .i64 0, .slice none 0 0, .slice none 0 0] 30))).heap.size := by simp
  have hq0 := hide (show (((w.alloc (Obj.cells #[(.slice Am1 m.regs.length cm1), .int .i64 m.pc, (.slice Am2 m.mem.length cm2), .int .i64 m.save, .bool m.lets, .bool m.waits, .int .i64 m.halt, (.slice Am3 m.ins.length cm3), (.slice Am4 m.outs.length cm4), .int .i64 m.count] 26)).alloc (Obj.cells #[.slice none 0 0, .int .i64 0, .slice none 0 0, .int .i64 0, .bool false, .bool false, .int .i64 0, .slice none 0 0, .slice none 0 0, .int .i64 0, .slice none 0 0, .slice none 0 0] 30))).heap.size = w.heap.size + 2 by simp)
  have hBm_0 : Bx ((w.alloc (Obj.cells #[(.slice Am1 m.regs.length cm1), .int .i64 m.pc, (.slice Am2 m.mem.length cm2), .int .i64 m.save, .bool m.lets, .bool m.waits, .int .i64 m.halt, (.slice Am3 m.ins.length cm3), (.slice Am4 m.outs.length cm4), .int .i64 m.count] 26)).alloc (Obj.cells #[.slice none 0 0, .int .i64 0, .slice none 0 0, .int .i64 0, .bool false, .bool false, .int .i64 0, .slice none 0 0, .slice none 0 0, .int .i64 0, .slice none 0 0, .slice none 0 0] 30)) (w.heap.size) [(.slice Am1 m.regs.length cm1), .int .i64 m.pc, (.slice Am2 m.mem.length cm2), .int .i64 m.save, .bool m.lets, .bool m.waits, .int .i64 m.halt, (.slice Am3 m.ins.length cm3), (.slice Am4 m.outs.length cm4), .int .i64 m.count] := (by have := (Bx.alloc (Bx.new w #[(.slice Am1 m.regs.length cm1), .int .i64 m.pc, (.slice Am2 m.mem.length cm2), .int .i64 m.save, .bool m.lets, .bool m.waits, .int .i64 m.halt, (.slice Am3 m.ins.length cm3), (.slice Am4 m.outs.length cm4), .int .i64 m.count] 26) (by simp) #[.slice none 0 0, .int .i64 0, .slice none 0 0, .int .i64 0, .bool false, .bool false, .int .i64 0, .slice none 0 0, .slice none 0 0, .int .i64 0, .slice none 0 0, .slice none 0 0] 30); simpa using this)
  have hFm_0 : ∀ oo, (((w.alloc (Obj.cells #[(.slice Am1 m.regs.length cm1), .int .i64 m.pc, (.slice Am2 m.mem.length cm2), .int .i64 m.save, .bool m.lets, .bool m.waits, .int .i64 m.halt, (.slice Am3 m.ins.length cm3), (.slice Am4 m.outs.length cm4), .int .i64 m.count] 26)).alloc (Obj.cells #[.slice none 0 0, .int .i64 0, .slice none 0 0, .int .i64 0, .bool false, .bool false, .int .i64 0, .slice none 0 0, .slice none 0 0, .int .i64 0, .slice none 0 0, .slice none 0 0] 30))).frozen? ⟨w.heap.size, oo, none⟩ = false := fun oo => by simp
  have hBres_0 : Bx ((w.alloc (Obj.cells #[(.slice Am1 m.regs.length cm1), .int .i64 m.pc, (.slice Am2 m.mem.length cm2), .int .i64 m.save, .bool m.lets, .bool m.waits, .int .i64 m.halt, (.slice Am3 m.ins.length cm3), (.slice Am4 m.outs.length cm4), .int .i64 m.count] 26)).alloc (Obj.cells #[.slice none 0 0, .int .i64 0, .slice none 0 0, .int .i64 0, .bool false, .bool false, .int .i64 0, .slice none 0 0, .slice none 0 0, .int .i64 0, .slice none 0 0, .slice none 0 0] 30)) (w.heap.size + 1) [.slice none 0 0, .int .i64 0, .slice none 0 0, .int .i64 0, .bool false, .bool false, .int .i64 0, .slice none 0 0, .slice none 0 0, .int .i64 0, .slice none 0 0, .slice none 0 0] := (by have := (Bx.new (w.alloc (Obj.cells #[(.slice Am1 m.regs.length cm1), .int .i64 m.pc, (.slice Am2 m.mem.length cm2), .int .i64 m.save, .bool m.lets, .bool m.waits, .int .i64 m.halt, (.slice Am3 m.ins.length cm3), (.slice Am4 m.outs.length cm4), .int .i64 m.count] 26)) #[.slice none 0 0, .int .i64 0, .slice none 0 0, .int .i64 0, .bool false, .bool false, .int .i64 0, .slice none 0 0, .slice none 0 0, .int .i64 0, .slice none 0 0, .slice none 0 0] 30); simpa using this)
  have hFres_0 : ∀ oo, (((w.alloc (Obj.cells #[(.slice Am1 m.regs.length cm1), .int .i64 m.pc, (.slice Am2 m.mem.length cm2), .int .i64 m.save, .bool m.lets, .bool m.waits, .int .i64 m.halt, (.slice Am3 m.ins.length cm3), (.slice Am4 m.outs.length cm4), .int .i64 m.count] 26)).alloc (Obj.cells #[.slice none 0 0, .int .i64 0, .slice none 0 0, .int .i64 0, .bool false, .bool false, .int .i64 0, .slice none 0 0, .slice none 0 0, .int .i64 0, .slice none 0 0, .slice none 0 0] 30))).frozen? ⟨w.heap.size + 1, oo, none⟩ = false := fun oo => by simp
  generalize ((w.alloc (Obj.cells #[(.slice Am1 m.regs.length cm1), .int .i64 m.pc, (.slice Am2 m.mem.length cm2), .int .i64 m.save, .bool m.lets, .bool m.waits, .int .i64 m.halt, (.slice Am3 m.ins.length cm3), (.slice Am4 m.outs.length cm4), .int .i64 m.count] 26)).alloc (Obj.cells #[.slice none 0 0, .int .i64 0, .slice none 0 0, .int .i64 0, .bool false, .bool false, .int .i64 0, .slice none 0 0, .slice none 0 0, .int .i64 0, .slice none 0 0, .slice none 0 0] 30)) = w0 at *
  refine (implMchOk_any m _ _ _ _ _ (hm1.ext he0) (hm2.ext he0) (hm3.ext he0) (hm4.ext he0)).mono ?_
  rintro e w1 ⟨rfl, hy⟩
  have hx1 : Ext w0 w1 := Ext.trans (Ext.auto) hy
  have hs1 := hx1.size
  have he1 : Ext w w1 := he0.trans hx1
  have hBm_1 : Bx w1 (w.heap.size) [(.slice Am1 m.regs.length cm1), .int .i64 m.pc, (.slice Am2 m.mem.length cm2), .int .i64 m.save, .bool m.lets, .bool m.waits, .int .i64 m.halt, (.slice Am3 m.ins.length cm3), (.slice Am4 m.outs.length cm4), .int .i64 m.count] := hx1.bx hBm_0 (by omega)
  have hFm_1 : ∀ oo, w1.frozen? ⟨w.heap.size, oo, none⟩ = false := fun oo => (hx1.frozen (by omega)).trans (hFm_0 oo)
  have hBres_1 : Bx w1 (w.heap.size + 1) [.slice none 0 0, .int .i64 0, .slice none 0 0, .int .i64 0, .bool false, .bool false, .int .i64 0, .slice none 0 0, .slice none 0 0, .int .i64 0, .slice none 0 0, .slice none 0 0] := hx1.bx hBres_0 (by omega)
  have hFres_1 : ∀ oo, w1.frozen? ⟨w.heap.size + 1, oo, none⟩ = false := fun oo => (hx1.frozen (by omega)).trans (hFres_0 oo)
  clear hBm_0 hFm_0 hBres_0 hFres_0
  clear hy
  cases hok : mchOkB m
  · 
    have HNO := hide (engNew_no hok)
    clear hok
    have yres : w.heap.size + 1 < w1.heap.size := by omega
    have xres0 := hBres_1 0 _ rfl
    have xres1 := hBres_1 1 _ rfl
    have xres2 := hBres_1 2 _ rfl
    have xres3 := hBres_1 3 _ rfl
    have xres4 := hBres_1 4 _ rfl
    have xres5 := hBres_1 5 _ rfl
    have xres6 := hBres_1 6 _ rfl
    have xres7 := hBres_1 7 _ rfl
    have xres8 := hBres_1 8 _ rfl
    have xres9 := hBres_1 9 _ rfl
    have xres10 := hBres_1 10 _ rfl
    have xres11 := hBres_1 11 _ rfl
    have fres := hFres_1
    go_wp2
    refine bodyPost_ret (v := .agg #[.slice none 0 0, .int .i64 0, .slice none 0 0, .int .i64 0, .bool false, .bool false, .int .i64 0, .slice none 0 0, .slice none 0 0, .int .i64 0, .slice none 0 0, .slice none 0 0]) (by simp [results, Try.results12, go_sem, xres0, xres1, xres2, xres3, xres4, xres5, xres6, xres7, xres8, xres9, xres10, xres11, yres]) rfl ⟨.slice none 0 0, .slice none 0 0, .slice none 0 0, .slice none 0 0, .slice none 0 0, .slice none 0 0, [], [], [], [], [], [], by rw [HNO.out]; rfl, by rw [HNO.out]; exact OwnSl.nil _, by rw [HNO.out]; exact OwnSl.nil _, by rw [HNO.out]; exact OwnSl.nil _, by rw [HNO.out]; exact OwnSl.nil _, by rw [HNO.out]; exact OwnSl.nil _, by rw [HNO.out]; exact OwnSl.nil _, Fr.nil _ _, (Ext.hold he1)⟩
  · 
    have HYES := hide (engNew_yes hok)
    clear hok
    have HB : Bulk.blk m = Bulk.blk m.regs + Bulk.blk m.mem + Bulk.blk m.ins + Bulk.blk m.outs := rfl
    have b1 := blk_len m.regs
    have b2 := blk_len m.mem
    have b3 := blk_len m.ins
    have b4 := blk_len m.outs
    have ym : w.heap.size < w1.heap.size := by omega
    have xm0 := hBm_1 0 _ rfl
    have xm1 := hBm_1 1 _ rfl
    have xm2 := hBm_1 2 _ rfl
    have xm3 := hBm_1 3 _ rfl
    have xm4 := hBm_1 4 _ rfl
    have xm5 := hBm_1 5 _ rfl
    have xm6 := hBm_1 6 _ rfl
    have xm7 := hBm_1 7 _ rfl
    have xm8 := hBm_1 8 _ rfl
    have xm9 := hBm_1 9 _ rfl
    go_wp2_with fail
    clear xm0 xm1 xm2 xm3 xm4 xm5 xm6 xm7 xm8 xm9 ym
    refine (cloneMach_any m _ _ _ _ _ (hm1.ext he1) (hm2.ext he1) (hm3.ext he1) (hm4.ext he1) (by omega) (by omega) (by omega) (by omega)).mono ?_
    rintro e w2 ⟨r1, r2, r3, r4, F1, F2, F3, F4, rfl, ho1, ho2, ho3, ho4, hf, hy⟩
    have hx2 : Ext w1 w2 := Ext.trans (Ext.auto) hy
    have hs2 := hx2.size
    have he2 : Ext w w2 := he1.trans hx2
    have hBm_2 : Bx w2 (w.heap.size) [(.slice Am1 m.regs.length cm1), .int .i64 m.pc, (.slice Am2 m.mem.length cm2), .int .i64 m.save, .bool m.lets, .bool m.waits, .int .i64 m.halt, (.slice Am3 m.ins.length cm3), (.slice Am4 m.outs.length cm4), .int .i64 m.count] := hx2.bx hBm_1 (by omega)
    have hFm_2 : ∀ oo, w2.frozen? ⟨w.heap.size, oo, none⟩ = false := fun oo => (hx2.frozen (by omega)).trans (hFm_1 oo)
    have hBres_2 : Bx w2 (w.heap.size + 1) [.slice none 0 0, .int .i64 0, .slice none 0 0, .int .i64 0, .bool false, .bool false, .int .i64 0, .slice none 0 0, .slice none 0 0, .int .i64 0, .slice none 0 0, .slice none 0 0] := hx2.bx hBres_1 (by omega)
    have hFres_2 : ∀ oo, w2.frozen? ⟨w.heap.size + 1, oo, none⟩ = false := fun oo => (hx2.frozen (by omega)).trans (hFres_1 oo)
    clear hBm_1 hFm_1 hBres_1 hFres_1
    clear hy
    obtain ⟨B1, d1, rfl, -, -⟩ := ho1.sl.form
    obtain ⟨B2, d2, rfl, -, -⟩ := ho2.sl.form
    obtain ⟨B3, d3, rfl, -, -⟩ := ho3.sl.form
    obtain ⟨B4, d4, rfl, -, -⟩ := ho4.sl.form
    have yres : w.heap.size + 1 < w2.heap.size := by omega
    have xres0 := hBres_2 0 _ rfl
    have xres1 := hBres_2 1 _ rfl
    have xres2 := hBres_2 2 _ rfl
    have xres3 := hBres_2 3 _ rfl
    have xres4 := hBres_2 4 _ rfl
    have xres5 := hBres_2 5 _ rfl
    have xres6 := hBres_2 6 _ rfl
    have xres7 := hBres_2 7 _ rfl
    have xres8 := hBres_2 8 _ rfl
    have xres9 := hBres_2 9 _ rfl
    have xres10 := hBres_2 10 _ rfl
    have xres11 := hBres_2 11 _ rfl
    have fres := hFres_2
    go_wp2
    refine bodyPost_ret (v := .agg #[(.slice B1 m.regs.length d1), .int .i64 m.pc, (.slice B2 m.mem.length d2), .int .i64 m.save, .bool m.lets, .bool m.waits, .int .i64 m.halt, (.slice B3 m.ins.length d3), (.slice B4 m.outs.length d4), .int .i64 m.count, .slice none 0 0, .slice none 0 0]) (by simp [results, Try.results12, go_sem, xres0, xres1, xres2, xres3, xres4, xres5, xres6, xres7, xres8, xres9, xres10, xres11, yres]) rfl ⟨_, _, _, _, .slice none 0 0, .slice none 0 0, F1, F2, F3, F4, [], [], by rw [HYES.out], ?_, ?_, ?_, ?_, by rw [HYES.out]; exact OwnSl.nil _, by rw [HYES.out]; exact OwnSl.nil _, ?_, ?_⟩
    · rw [HYES.out]
      exact OwnSl.stay ho1 (fun b hb => by
        have q := hf.2 b (by simp [hb]); have q1 := q.1; have q2 := q.2
        (try simp at q1 q2)
        repeat (first | rw [heap_set _ _ _ _ (by simp; omega)]))
    · rw [HYES.out]
      exact OwnSl.stay ho2 (fun b hb => by
        have q := hf.2 b (by simp [hb]); have q1 := q.1; have q2 := q.2
        (try simp at q1 q2)
        repeat (first | rw [heap_set _ _ _ _ (by simp; omega)]))
    · rw [HYES.out]
      exact OwnSl.stay ho3 (fun b hb => by
        have q := hf.2 b (by simp [hb]); have q1 := q.1; have q2 := q.2
        (try simp at q1 q2)
        repeat (first | rw [heap_set _ _ _ _ (by simp; omega)]))
    · rw [HYES.out]
      exact OwnSl.stay ho4 (fun b hb => by
        have q := hf.2 b (by simp [hb]); have q1 := q.1; have q2 := q.2
        (try simp at q1 q2)
        repeat (first | rw [heap_set _ _ _ _ (by simp; omega)]))
    · simp only [List.append_nil]
      exact hf.mk1 (by first | omega | (simp; done) | (simp; omega)) (by first | omega | (simp; done) | (simp; omega))
    · exact Ext.hold he2

set_option maxHeartbeats 16000000 in
theorem specEngNew_any (m : MchMach) (vm1 vm2 vm3 vm4 : Value) (w : World) (hm1 : Sl w (Old w) vm1 m.regs) (hm2 : Sl w (Old w) vm2 m.mem) (hm3 : Sl w (Old w) vm3 m.ins) (hm4 : Sl w (Old w) vm4 m.outs) (hkm : m.Ok) (hn : Bulk.blk m ≤ 4194300) :
    Calls Try.prog 10 #[.agg #[vm1, .int .i64 m.pc, vm2, .int .i64 m.save, .bool m.lets, .bool m.waits, .int .i64 m.halt, vm3, vm4, .int .i64 m.count]] w fun e w' => ∃ (r1 r2 r3 r4 r5 r6 : Value) (F1 F2 F3 F4 F5 F6 : List Nat), e = .returned (.agg #[r1, .int .i64 ((engNew m).mach.pc), r2, .int .i64 ((engNew m).mach.save), .bool (engNew m).mach.lets, .bool (engNew m).mach.waits, .int .i64 ((engNew m).mach.halt), r3, r4, .int .i64 ((engNew m).mach.count), r5, r6]) ∧ OwnSl w' r1 (engNew m).mach.regs F1 ∧ OwnSl w' r2 (engNew m).mach.mem F2 ∧ OwnSl w' r3 (engNew m).mach.ins F3 ∧ OwnSl w' r4 (engNew m).mach.outs F4 ∧ OwnSl w' r5 (engNew m).cache F5 ∧ OwnSl w' r6 (engNew m).certs F6 ∧ Fr w w' (F1 ++ F2 ++ F3 ++ F4 ++ F5 ++ F6) ∧ Ext w w' := by
  obtain ⟨Am1, cm1, rfl, hlm1, hmm1⟩ := hm1.form
  obtain ⟨Am2, cm2, rfl, hlm2, hmm2⟩ := hm2.form
  obtain ⟨Am3, cm3, rfl, hlm3, hmm3⟩ := hm3.form
  obtain ⟨Am4, cm4, rfl, hlm4, hmm4⟩ := hm4.form
  go_enter Try.func10, Try.ntmps10
  go_wp2_with fail
  have he0 : Ext w ((w.alloc (Obj.cells #[(.slice Am1 m.regs.length cm1), .int .i64 m.pc, (.slice Am2 m.mem.length cm2), .int .i64 m.save, .bool m.lets, .bool m.waits, .int .i64 m.halt, (.slice Am3 m.ins.length cm3), (.slice Am4 m.outs.length cm4), .int .i64 m.count] 26)).alloc (Obj.cells #[.slice none 0 0, .int .i64 0, .slice none 0 0, .int .i64 0, .bool false, .bool false, .int .i64 0, .slice none 0 0, .slice none 0 0, .int .i64 0, .slice none 0 0, .slice none 0 0] 30)) := (Ext.auto)
  have hs0 : w.heap.size + 2 ≤ (((w.alloc (Obj.cells #[(.slice Am1 m.regs.length cm1), .int .i64 m.pc, (.slice Am2 m.mem.length cm2), .int .i64 m.save, .bool m.lets, .bool m.waits, .int .i64 m.halt, (.slice Am3 m.ins.length cm3), (.slice Am4 m.outs.length cm4), .int .i64 m.count] 26)).alloc (Obj.cells #[.slice none 0 0, .int .i64 0, .slice none 0 0, .int .i64 0, .bool false, .bool false, .int .i64 0, .slice none 0 0, .slice none 0 0, .int .i64 0, .slice none 0 0, .slice none 0 0] 30))).heap.size := by simp
  have hq0 := hide (show (((w.alloc (Obj.cells #[(.slice Am1 m.regs.length cm1), .int .i64 m.pc, (.slice Am2 m.mem.length cm2), .int .i64 m.save, .bool m.lets, .bool m.waits, .int .i64 m.halt, (.slice Am3 m.ins.length cm3), (.slice Am4 m.outs.length cm4), .int .i64 m.count] 26)).alloc (Obj.cells #[.slice none 0 0, .int .i64 0, .slice none 0 0, .int .i64 0, .bool false, .bool false, .int .i64 0, .slice none 0 0, .slice none 0 0, .int .i64 0, .slice none 0 0, .slice none 0 0] 30))).heap.size = w.heap.size + 2 by simp)
  have hBm_0 : Bx ((w.alloc (Obj.cells #[(.slice Am1 m.regs.length cm1), .int .i64 m.pc, (.slice Am2 m.mem.length cm2), .int .i64 m.save, .bool m.lets, .bool m.waits, .int .i64 m.halt, (.slice Am3 m.ins.length cm3), (.slice Am4 m.outs.length cm4), .int .i64 m.count] 26)).alloc (Obj.cells #[.slice none 0 0, .int .i64 0, .slice none 0 0, .int .i64 0, .bool false, .bool false, .int .i64 0, .slice none 0 0, .slice none 0 0, .int .i64 0, .slice none 0 0, .slice none 0 0] 30)) (w.heap.size) [(.slice Am1 m.regs.length cm1), .int .i64 m.pc, (.slice Am2 m.mem.length cm2), .int .i64 m.save, .bool m.lets, .bool m.waits, .int .i64 m.halt, (.slice Am3 m.ins.length cm3), (.slice Am4 m.outs.length cm4), .int .i64 m.count] := (by have := (Bx.alloc (Bx.new w #[(.slice Am1 m.regs.length cm1), .int .i64 m.pc, (.slice Am2 m.mem.length cm2), .int .i64 m.save, .bool m.lets, .bool m.waits, .int .i64 m.halt, (.slice Am3 m.ins.length cm3), (.slice Am4 m.outs.length cm4), .int .i64 m.count] 26) (by simp) #[.slice none 0 0, .int .i64 0, .slice none 0 0, .int .i64 0, .bool false, .bool false, .int .i64 0, .slice none 0 0, .slice none 0 0, .int .i64 0, .slice none 0 0, .slice none 0 0] 30); simpa using this)
  have hFm_0 : ∀ oo, (((w.alloc (Obj.cells #[(.slice Am1 m.regs.length cm1), .int .i64 m.pc, (.slice Am2 m.mem.length cm2), .int .i64 m.save, .bool m.lets, .bool m.waits, .int .i64 m.halt, (.slice Am3 m.ins.length cm3), (.slice Am4 m.outs.length cm4), .int .i64 m.count] 26)).alloc (Obj.cells #[.slice none 0 0, .int .i64 0, .slice none 0 0, .int .i64 0, .bool false, .bool false, .int .i64 0, .slice none 0 0, .slice none 0 0, .int .i64 0, .slice none 0 0, .slice none 0 0] 30))).frozen? ⟨w.heap.size, oo, none⟩ = false := fun oo => by simp
  have hBres_0 : Bx ((w.alloc (Obj.cells #[(.slice Am1 m.regs.length cm1), .int .i64 m.pc, (.slice Am2 m.mem.length cm2), .int .i64 m.save, .bool m.lets, .bool m.waits, .int .i64 m.halt, (.slice Am3 m.ins.length cm3), (.slice Am4 m.outs.length cm4), .int .i64 m.count] 26)).alloc (Obj.cells #[.slice none 0 0, .int .i64 0, .slice none 0 0, .int .i64 0, .bool false, .bool false, .int .i64 0, .slice none 0 0, .slice none 0 0, .int .i64 0, .slice none 0 0, .slice none 0 0] 30)) (w.heap.size + 1) [.slice none 0 0, .int .i64 0, .slice none 0 0, .int .i64 0, .bool false, .bool false, .int .i64 0, .slice none 0 0, .slice none 0 0, .int .i64 0, .slice none 0 0, .slice none 0 0] := (by have := (Bx.new (w.alloc (Obj.cells #[(.slice Am1 m.regs.length cm1), .int .i64 m.pc, (.slice Am2 m.mem.length cm2), .int .i64 m.save, .bool m.lets, .bool m.waits, .int .i64 m.halt, (.slice Am3 m.ins.length cm3), (.slice Am4 m.outs.length cm4), .int .i64 m.count] 26)) #[.slice none 0 0, .int .i64 0, .slice none 0 0, .int .i64 0, .bool false, .bool false, .int .i64 0, .slice none 0 0, .slice none 0 0, .int .i64 0, .slice none 0 0, .slice none 0 0] 30); simpa using this)
  have hFres_0 : ∀ oo, (((w.alloc (Obj.cells #[(.slice Am1 m.regs.length cm1), .int .i64 m.pc, (.slice Am2 m.mem.length cm2), .int .i64 m.save, .bool m.lets, .bool m.waits, .int .i64 m.halt, (.slice Am3 m.ins.length cm3), (.slice Am4 m.outs.length cm4), .int .i64 m.count] 26)).alloc (Obj.cells #[.slice none 0 0, .int .i64 0, .slice none 0 0, .int .i64 0, .bool false, .bool false, .int .i64 0, .slice none 0 0, .slice none 0 0, .int .i64 0, .slice none 0 0, .slice none 0 0] 30))).frozen? ⟨w.heap.size + 1, oo, none⟩ = false := fun oo => by simp
  generalize ((w.alloc (Obj.cells #[(.slice Am1 m.regs.length cm1), .int .i64 m.pc, (.slice Am2 m.mem.length cm2), .int .i64 m.save, .bool m.lets, .bool m.waits, .int .i64 m.halt, (.slice Am3 m.ins.length cm3), (.slice Am4 m.outs.length cm4), .int .i64 m.count] 26)).alloc (Obj.cells #[.slice none 0 0, .int .i64 0, .slice none 0 0, .int .i64 0, .bool false, .bool false, .int .i64 0, .slice none 0 0, .slice none 0 0, .int .i64 0, .slice none 0 0, .slice none 0 0] 30)) = w0 at *
  refine (specMchOk_any m _ _ _ _ _ (hm1.ext he0) (hm2.ext he0) (hm3.ext he0) (hm4.ext he0)).mono ?_
  rintro e w1 ⟨rfl, hy⟩
  have hx1 : Ext w0 w1 := Ext.trans (Ext.auto) hy
  have hs1 := hx1.size
  have he1 : Ext w w1 := he0.trans hx1
  have hBm_1 : Bx w1 (w.heap.size) [(.slice Am1 m.regs.length cm1), .int .i64 m.pc, (.slice Am2 m.mem.length cm2), .int .i64 m.save, .bool m.lets, .bool m.waits, .int .i64 m.halt, (.slice Am3 m.ins.length cm3), (.slice Am4 m.outs.length cm4), .int .i64 m.count] := hx1.bx hBm_0 (by omega)
  have hFm_1 : ∀ oo, w1.frozen? ⟨w.heap.size, oo, none⟩ = false := fun oo => (hx1.frozen (by omega)).trans (hFm_0 oo)
  have hBres_1 : Bx w1 (w.heap.size + 1) [.slice none 0 0, .int .i64 0, .slice none 0 0, .int .i64 0, .bool false, .bool false, .int .i64 0, .slice none 0 0, .slice none 0 0, .int .i64 0, .slice none 0 0, .slice none 0 0] := hx1.bx hBres_0 (by omega)
  have hFres_1 : ∀ oo, w1.frozen? ⟨w.heap.size + 1, oo, none⟩ = false := fun oo => (hx1.frozen (by omega)).trans (hFres_0 oo)
  clear hBm_0 hFm_0 hBres_0 hFres_0
  clear hy
  cases hok : mchOkB m
  · 
    have HNO := hide (engNew_no hok)
    clear hok
    have yres : w.heap.size + 1 < w1.heap.size := by omega
    have xres0 := hBres_1 0 _ rfl
    have xres1 := hBres_1 1 _ rfl
    have xres2 := hBres_1 2 _ rfl
    have xres3 := hBres_1 3 _ rfl
    have xres4 := hBres_1 4 _ rfl
    have xres5 := hBres_1 5 _ rfl
    have xres6 := hBres_1 6 _ rfl
    have xres7 := hBres_1 7 _ rfl
    have xres8 := hBres_1 8 _ rfl
    have xres9 := hBres_1 9 _ rfl
    have xres10 := hBres_1 10 _ rfl
    have xres11 := hBres_1 11 _ rfl
    have fres := hFres_1
    go_wp2
    refine bodyPost_ret (v := .agg #[.slice none 0 0, .int .i64 0, .slice none 0 0, .int .i64 0, .bool false, .bool false, .int .i64 0, .slice none 0 0, .slice none 0 0, .int .i64 0, .slice none 0 0, .slice none 0 0]) (by simp [results, Try.results10, go_sem, xres0, xres1, xres2, xres3, xres4, xres5, xres6, xres7, xres8, xres9, xres10, xres11, yres]) rfl ⟨.slice none 0 0, .slice none 0 0, .slice none 0 0, .slice none 0 0, .slice none 0 0, .slice none 0 0, [], [], [], [], [], [], by rw [HNO.out]; rfl, by rw [HNO.out]; exact OwnSl.nil _, by rw [HNO.out]; exact OwnSl.nil _, by rw [HNO.out]; exact OwnSl.nil _, by rw [HNO.out]; exact OwnSl.nil _, by rw [HNO.out]; exact OwnSl.nil _, by rw [HNO.out]; exact OwnSl.nil _, Fr.nil _ _, (Ext.hold he1)⟩
  · 
    have HYES := hide (engNew_yes hok)
    clear hok
    have HB : Bulk.blk m = Bulk.blk m.regs + Bulk.blk m.mem + Bulk.blk m.ins + Bulk.blk m.outs := rfl
    have b1 := blk_len m.regs
    have b2 := blk_len m.mem
    have b3 := blk_len m.ins
    have b4 := blk_len m.outs
    have ym : w.heap.size < w1.heap.size := by omega
    have xm0 := hBm_1 0 _ rfl
    have xm1 := hBm_1 1 _ rfl
    have xm2 := hBm_1 2 _ rfl
    have xm3 := hBm_1 3 _ rfl
    have xm4 := hBm_1 4 _ rfl
    have xm5 := hBm_1 5 _ rfl
    have xm6 := hBm_1 6 _ rfl
    have xm7 := hBm_1 7 _ rfl
    have xm8 := hBm_1 8 _ rfl
    have xm9 := hBm_1 9 _ rfl
    go_wp2_with fail
    clear xm0 xm1 xm2 xm3 xm4 xm5 xm6 xm7 xm8 xm9 ym
    refine (l3Copy_any m _ _ _ _ _ (hm1.ext he1) (hm2.ext he1) (hm3.ext he1) (hm4.ext he1) (by omega) (by omega) (by omega) (by omega)).mono ?_
    rintro e w2 ⟨r1, r2, r3, r4, F1, F2, F3, F4, rfl, ho1, ho2, ho3, ho4, hf, hy⟩
    have hx2 : Ext w1 w2 := Ext.trans (Ext.auto) hy
    have hs2 := hx2.size
    have he2 : Ext w w2 := he1.trans hx2
    have hBm_2 : Bx w2 (w.heap.size) [(.slice Am1 m.regs.length cm1), .int .i64 m.pc, (.slice Am2 m.mem.length cm2), .int .i64 m.save, .bool m.lets, .bool m.waits, .int .i64 m.halt, (.slice Am3 m.ins.length cm3), (.slice Am4 m.outs.length cm4), .int .i64 m.count] := hx2.bx hBm_1 (by omega)
    have hFm_2 : ∀ oo, w2.frozen? ⟨w.heap.size, oo, none⟩ = false := fun oo => (hx2.frozen (by omega)).trans (hFm_1 oo)
    have hBres_2 : Bx w2 (w.heap.size + 1) [.slice none 0 0, .int .i64 0, .slice none 0 0, .int .i64 0, .bool false, .bool false, .int .i64 0, .slice none 0 0, .slice none 0 0, .int .i64 0, .slice none 0 0, .slice none 0 0] := hx2.bx hBres_1 (by omega)
    have hFres_2 : ∀ oo, w2.frozen? ⟨w.heap.size + 1, oo, none⟩ = false := fun oo => (hx2.frozen (by omega)).trans (hFres_1 oo)
    clear hBm_1 hFm_1 hBres_1 hFres_1
    clear hy
    obtain ⟨B1, d1, rfl, -, -⟩ := ho1.sl.form
    obtain ⟨B2, d2, rfl, -, -⟩ := ho2.sl.form
    obtain ⟨B3, d3, rfl, -, -⟩ := ho3.sl.form
    obtain ⟨B4, d4, rfl, -, -⟩ := ho4.sl.form
    have yres : w.heap.size + 1 < w2.heap.size := by omega
    have xres0 := hBres_2 0 _ rfl
    have xres1 := hBres_2 1 _ rfl
    have xres2 := hBres_2 2 _ rfl
    have xres3 := hBres_2 3 _ rfl
    have xres4 := hBres_2 4 _ rfl
    have xres5 := hBres_2 5 _ rfl
    have xres6 := hBres_2 6 _ rfl
    have xres7 := hBres_2 7 _ rfl
    have xres8 := hBres_2 8 _ rfl
    have xres9 := hBres_2 9 _ rfl
    have xres10 := hBres_2 10 _ rfl
    have xres11 := hBres_2 11 _ rfl
    have fres := hFres_2
    go_wp2
    refine bodyPost_ret (v := .agg #[(.slice B1 m.regs.length d1), .int .i64 m.pc, (.slice B2 m.mem.length d2), .int .i64 m.save, .bool m.lets, .bool m.waits, .int .i64 m.halt, (.slice B3 m.ins.length d3), (.slice B4 m.outs.length d4), .int .i64 m.count, .slice none 0 0, .slice none 0 0]) (by simp [results, Try.results10, go_sem, xres0, xres1, xres2, xres3, xres4, xres5, xres6, xres7, xres8, xres9, xres10, xres11, yres]) rfl ⟨_, _, _, _, .slice none 0 0, .slice none 0 0, F1, F2, F3, F4, [], [], by rw [HYES.out], ?_, ?_, ?_, ?_, by rw [HYES.out]; exact OwnSl.nil _, by rw [HYES.out]; exact OwnSl.nil _, ?_, ?_⟩
    · rw [HYES.out]
      exact OwnSl.stay ho1 (fun b hb => by
        have q := hf.2 b (by simp [hb]); have q1 := q.1; have q2 := q.2
        (try simp at q1 q2)
        repeat (first | rw [heap_set _ _ _ _ (by simp; omega)]))
    · rw [HYES.out]
      exact OwnSl.stay ho2 (fun b hb => by
        have q := hf.2 b (by simp [hb]); have q1 := q.1; have q2 := q.2
        (try simp at q1 q2)
        repeat (first | rw [heap_set _ _ _ _ (by simp; omega)]))
    · rw [HYES.out]
      exact OwnSl.stay ho3 (fun b hb => by
        have q := hf.2 b (by simp [hb]); have q1 := q.1; have q2 := q.2
        (try simp at q1 q2)
        repeat (first | rw [heap_set _ _ _ _ (by simp; omega)]))
    · rw [HYES.out]
      exact OwnSl.stay ho4 (fun b hb => by
        have q := hf.2 b (by simp [hb]); have q1 := q.1; have q2 := q.2
        (try simp at q1 q2)
        repeat (first | rw [heap_set _ _ _ _ (by simp; omega)]))
    · simp only [List.append_nil]
      exact hf.mk1 (by first | omega | (simp; done) | (simp; omega)) (by first | omega | (simp; done) | (simp; omega))
    · exact Ext.hold he2

end Go.Proofs.Ytpneijbjheeobaa
