/-
  Copies of numbers, and of machines: the program and the reference.
-/
import Derived.Test.YteaacelfnkiboaaTo
import Derived.Test.YteaacelfnkiboaaRegLib
import Derived.Test.YteaacelfnkiboaaMachLib
import Derived.Deep.DeepCutAuto
namespace Go.Proofs.Yteaacelfnkiboaa
open Go.RowKit

set_option linter.unusedVariables false
set_option linter.unusedSimpArgs false
set_option maxRecDepth 100000

set_option maxHeartbeats 1000000 in
theorem cloneInts_any (l : List Int) (v : Value) (w : World) (h : Sl w (Old w) v l) (hn : l.length ≤ 4194304) :
    Calls Try.prog 93 #[v] w fun e w' => ∃ r F, e = .returned r ∧ OwnSl w' r l F ∧ Fr w w' F ∧ Ext w w' := by
  obtain ⟨A, c, rfl, hl, hm⟩ := h.form
  obtain ⟨i0, hi, hz0, hz1, hz2⟩ := info_parts infInt
  have HI := hide hi
  have HZ0 := hide hz0
  have HZ1 := hide hz1
  have HZ2 := hide hz2
  clear hi hz0 hz1 hz2
  go_enter Try.func93, Try.ntmps93
  go_wp2_with (at_builtin; refine wpList_append_flat (w0 := w) (α := Int) rfl _ _ 41 rfl i0 _ 8 Try.underlying41 HI.out HZ0.out HZ1.out HZ2.out rfl (App.nil w 3) rfl _ l (Old w) rfl h (by simp [maxLen]; omega) (by simp; omega) ?_; intro v' w' Fs' xs' hA; obtain ⟨F, hO, hF⟩ := hA.done; have hE := hA.ext; clear hA)
  go_ret
  exact ⟨_, F, rfl, hO, hF, hE⟩

set_option maxHeartbeats 1000000 in
theorem cloneIntsApp_any (l : List Int) (v : Value) (w : World) (h : Sl w (Old w) v l) (hn : l.length ≤ 4194304) :
    Calls Try.prog 93 #[v] w fun e w' => ∃ r Fs xs, e = .returned r ∧ App w w' 3 r l Fs xs ∧ Fs.flatten = [] ∧ Ext w w' := by
  obtain ⟨A, c, rfl, hl, hm⟩ := h.form
  obtain ⟨i0, hi, hz0, hz1, hz2⟩ := info_parts infInt
  have HI := hide hi
  have HZ0 := hide hz0
  have HZ1 := hide hz1
  have HZ2 := hide hz2
  clear hi hz0 hz1 hz2
  go_enter Try.func93, Try.ntmps93
  go_wp2_with (at_builtin; refine wpList_append_flat (w0 := w) (α := Int) rfl _ _ 41 rfl i0 _ 8 Try.underlying41 HI.out HZ0.out HZ1.out HZ2.out rfl (App.nil w 3) rfl _ l (Old w) rfl h (by simp [maxLen]; omega) (by simp; omega) ?_; intro v' w' Fs' xs' hA; have hA2 := hA.flat)
  go_ret
  exact ⟨_, _, _, rfl, by simpa using hA2, by simp, hA.ext⟩

theorem cloneIntsC_any (l : List Int) (v : Value) (w : World) (h : Sl w (Old w) v l) (hn : l.length ≤ 4194304) :
    Calls Try.prog 93 #[v] w fun e w' => ∃ r F, e = .returned r ∧ OwnSl w' r l F ∧ Fr w w' F ∧ Cap 3 w' r ∧ (∀ q, r.ownBlock = some q → w.heap.size ≤ q) ∧ Ext w w' :=
  (cloneIntsApp_any l v w h hn).mono fun e w' ⟨r, Fs, xs, he, hA, hf, hE⟩ => by
    obtain ⟨F, hO, hF⟩ := hA.done
    exact ⟨r, F, he, hO, hF, Cap.of_app hA, fun q hq => (hA.row.lt q hq).1, hE⟩

set_option maxHeartbeats 16000000 in
theorem cloneMach_any (m : MchMach) (vm1 vm2 vm3 vm4 : Value) (w : World) (hm1 : Sl w (Old w) vm1 m.regs) (hm2 : Sl w (Old w) vm2 m.mem) (hm3 : Sl w (Old w) vm3 m.ins) (hm4 : Sl w (Old w) vm4 m.outs) (hn1 : m.regs.length ≤ 4194304) (hn2 : m.mem.length ≤ 4194304) (hn3 : m.ins.length ≤ 4194304) (hn4 : m.outs.length ≤ 4194304) :
    Calls Try.prog 63 #[.agg #[vm1, .int .i64 m.pc, vm2, .int .i64 m.save, .bool m.lets, .bool m.waits, .int .i64 m.halt, vm3, vm4, .int .i64 m.count]] w fun e w' => ∃ (r1 r2 r3 r4 : Value) (F1 F2 F3 F4 : List Nat), e = .returned (.agg #[r1, .int .i64 m.pc, r2, .int .i64 m.save, .bool m.lets, .bool m.waits, .int .i64 m.halt, r3, r4, .int .i64 m.count]) ∧ OwnSl w' r1 m.regs F1 ∧ OwnSl w' r2 m.mem F2 ∧ OwnSl w' r3 m.ins F3 ∧ OwnSl w' r4 m.outs F4 ∧ Fr w w' (F1 ++ F2 ++ F3 ++ F4) ∧ Ext w w' := by
  obtain ⟨Am1, cm1, rfl, hlm1, hmm1⟩ := hm1.form
  obtain ⟨Am2, cm2, rfl, hlm2, hmm2⟩ := hm2.form
  obtain ⟨Am3, cm3, rfl, hlm3, hmm3⟩ := hm3.form
  obtain ⟨Am4, cm4, rfl, hlm4, hmm4⟩ := hm4.form
  go_enter Try.func63, Try.ntmps63
  go_wp2_with fail
  have he0 : Ext w ((w.alloc (Obj.cells #[(.slice Am1 m.regs.length cm1), .int .i64 m.pc, (.slice Am2 m.mem.length cm2), .int .i64 m.save, .bool m.lets, .bool m.waits, .int .i64 m.halt, (.slice Am3 m.ins.length cm3), (.slice Am4 m.outs.length cm4), .int .i64 m.count] 46)).alloc (Obj.cells #[.slice none 0 0, .int .i64 0, .slice none 0 0, .int .i64 0, .bool false, .bool false, .int .i64 0, .slice none 0 0, .slice none 0 0, .int .i64 0] 46)) := (Ext.auto)
  have hs0 : w.heap.size + 2 ≤ (((w.alloc (Obj.cells #[(.slice Am1 m.regs.length cm1), .int .i64 m.pc, (.slice Am2 m.mem.length cm2), .int .i64 m.save, .bool m.lets, .bool m.waits, .int .i64 m.halt, (.slice Am3 m.ins.length cm3), (.slice Am4 m.outs.length cm4), .int .i64 m.count] 46)).alloc (Obj.cells #[.slice none 0 0, .int .i64 0, .slice none 0 0, .int .i64 0, .bool false, .bool false, .int .i64 0, .slice none 0 0, .slice none 0 0, .int .i64 0] 46))).heap.size := by simp
  have hq0 := hide (show (((w.alloc (Obj.cells #[(.slice Am1 m.regs.length cm1), .int .i64 m.pc, (.slice Am2 m.mem.length cm2), .int .i64 m.save, .bool m.lets, .bool m.waits, .int .i64 m.halt, (.slice Am3 m.ins.length cm3), (.slice Am4 m.outs.length cm4), .int .i64 m.count] 46)).alloc (Obj.cells #[.slice none 0 0, .int .i64 0, .slice none 0 0, .int .i64 0, .bool false, .bool false, .int .i64 0, .slice none 0 0, .slice none 0 0, .int .i64 0] 46))).heap.size = w.heap.size + 2 by simp)
  have hBm_0 : Bx ((w.alloc (Obj.cells #[(.slice Am1 m.regs.length cm1), .int .i64 m.pc, (.slice Am2 m.mem.length cm2), .int .i64 m.save, .bool m.lets, .bool m.waits, .int .i64 m.halt, (.slice Am3 m.ins.length cm3), (.slice Am4 m.outs.length cm4), .int .i64 m.count] 46)).alloc (Obj.cells #[.slice none 0 0, .int .i64 0, .slice none 0 0, .int .i64 0, .bool false, .bool false, .int .i64 0, .slice none 0 0, .slice none 0 0, .int .i64 0] 46)) (w.heap.size) [(.slice Am1 m.regs.length cm1), .int .i64 m.pc, (.slice Am2 m.mem.length cm2), .int .i64 m.save, .bool m.lets, .bool m.waits, .int .i64 m.halt, (.slice Am3 m.ins.length cm3), (.slice Am4 m.outs.length cm4), .int .i64 m.count] := (by have := (Bx.alloc (Bx.new w #[(.slice Am1 m.regs.length cm1), .int .i64 m.pc, (.slice Am2 m.mem.length cm2), .int .i64 m.save, .bool m.lets, .bool m.waits, .int .i64 m.halt, (.slice Am3 m.ins.length cm3), (.slice Am4 m.outs.length cm4), .int .i64 m.count] 46) (by simp) #[.slice none 0 0, .int .i64 0, .slice none 0 0, .int .i64 0, .bool false, .bool false, .int .i64 0, .slice none 0 0, .slice none 0 0, .int .i64 0] 46); simpa using this)
  have hFm_0 : ∀ oo, (((w.alloc (Obj.cells #[(.slice Am1 m.regs.length cm1), .int .i64 m.pc, (.slice Am2 m.mem.length cm2), .int .i64 m.save, .bool m.lets, .bool m.waits, .int .i64 m.halt, (.slice Am3 m.ins.length cm3), (.slice Am4 m.outs.length cm4), .int .i64 m.count] 46)).alloc (Obj.cells #[.slice none 0 0, .int .i64 0, .slice none 0 0, .int .i64 0, .bool false, .bool false, .int .i64 0, .slice none 0 0, .slice none 0 0, .int .i64 0] 46))).frozen? ⟨w.heap.size, oo, none⟩ = false := fun oo => by simp
  have hBres_0 : Bx ((w.alloc (Obj.cells #[(.slice Am1 m.regs.length cm1), .int .i64 m.pc, (.slice Am2 m.mem.length cm2), .int .i64 m.save, .bool m.lets, .bool m.waits, .int .i64 m.halt, (.slice Am3 m.ins.length cm3), (.slice Am4 m.outs.length cm4), .int .i64 m.count] 46)).alloc (Obj.cells #[.slice none 0 0, .int .i64 0, .slice none 0 0, .int .i64 0, .bool false, .bool false, .int .i64 0, .slice none 0 0, .slice none 0 0, .int .i64 0] 46)) (w.heap.size + 1) [.slice none 0 0, .int .i64 0, .slice none 0 0, .int .i64 0, .bool false, .bool false, .int .i64 0, .slice none 0 0, .slice none 0 0, .int .i64 0] := (by have := (Bx.new (w.alloc (Obj.cells #[(.slice Am1 m.regs.length cm1), .int .i64 m.pc, (.slice Am2 m.mem.length cm2), .int .i64 m.save, .bool m.lets, .bool m.waits, .int .i64 m.halt, (.slice Am3 m.ins.length cm3), (.slice Am4 m.outs.length cm4), .int .i64 m.count] 46)) #[.slice none 0 0, .int .i64 0, .slice none 0 0, .int .i64 0, .bool false, .bool false, .int .i64 0, .slice none 0 0, .slice none 0 0, .int .i64 0] 46); simpa using this)
  have hFres_0 : ∀ oo, (((w.alloc (Obj.cells #[(.slice Am1 m.regs.length cm1), .int .i64 m.pc, (.slice Am2 m.mem.length cm2), .int .i64 m.save, .bool m.lets, .bool m.waits, .int .i64 m.halt, (.slice Am3 m.ins.length cm3), (.slice Am4 m.outs.length cm4), .int .i64 m.count] 46)).alloc (Obj.cells #[.slice none 0 0, .int .i64 0, .slice none 0 0, .int .i64 0, .bool false, .bool false, .int .i64 0, .slice none 0 0, .slice none 0 0, .int .i64 0] 46))).frozen? ⟨w.heap.size + 1, oo, none⟩ = false := fun oo => by simp
  generalize ((w.alloc (Obj.cells #[(.slice Am1 m.regs.length cm1), .int .i64 m.pc, (.slice Am2 m.mem.length cm2), .int .i64 m.save, .bool m.lets, .bool m.waits, .int .i64 m.halt, (.slice Am3 m.ins.length cm3), (.slice Am4 m.outs.length cm4), .int .i64 m.count] 46)).alloc (Obj.cells #[.slice none 0 0, .int .i64 0, .slice none 0 0, .int .i64 0, .bool false, .bool false, .int .i64 0, .slice none 0 0, .slice none 0 0, .int .i64 0] 46)) = w0 at *
  have ym : w.heap.size < w0.heap.size := by omega
  have xm0 := hBm_0 0 _ rfl
  have xm1 := hBm_0 1 _ rfl
  have xm2 := hBm_0 2 _ rfl
  have xm3 := hBm_0 3 _ rfl
  have xm4 := hBm_0 4 _ rfl
  have xm5 := hBm_0 5 _ rfl
  have xm6 := hBm_0 6 _ rfl
  have xm7 := hBm_0 7 _ rfl
  have xm8 := hBm_0 8 _ rfl
  have xm9 := hBm_0 9 _ rfl
  go_wp2_with fail
  have hS : ∀ w', Ext w0 w' → ∀ bb oo, bb < w0.heap.size → w'.cell? ⟨bb, oo, none⟩ = w0.cell? ⟨bb, oo, none⟩ := fun w' hx bb oo hb => hx.cell hb
  refine wp_region_plan (fun w' => Ext w0 w') 13 (.float 0 (.float 1 (.float 3 (.float 4 (.float 6 (.float 7 (.float 9 (.float 10 (.chain 2 (.float 12 (.chain 5 (.chain 8 (.chain 11 (.tail 13)))))))))))))) (by kernel_rfl) (by kernel_rfl) (Ext.refl _).drew ?_
  iterate 8 ((refine Plan.float_step (v := ?_) rfl (by rfl) (fun _ _ _ h => h) (fun w' hSw => ?_) ?_; rotate_left; · (go_simp; try with_reducible rfl)); (try simp only [Act.put, List.setIfInBounds_toArray, List.set_cons_zero, List.set_cons_succ]))
  refine Plan.chain_step rfl (fun K hK => ?_)
  go_simp
  refine (cloneInts_any m.regs _ _ (hm1.ext (Ext.trans he0 (Ext.auto))) hn1).mono ?_
  rintro e w1 ⟨r1, F1, rfl, hr1, hf1, hy⟩
  refine hK.out _ _ (Ext.trans (Ext.auto) hy) ?_
  clear hK
  (try simp only [Act.put, List.setIfInBounds_toArray, List.set_cons_zero, List.set_cons_succ])
  have hx1 : Ext w0 w1 := Ext.trans (Ext.auto) hy
  have hs1 := hx1.size
  have he1 : Ext w w1 := he0.trans hx1
  have hBm_1 : Bx w1 (w.heap.size) [(.slice Am1 m.regs.length cm1), .int .i64 m.pc, (.slice Am2 m.mem.length cm2), .int .i64 m.save, .bool m.lets, .bool m.waits, .int .i64 m.halt, (.slice Am3 m.ins.length cm3), (.slice Am4 m.outs.length cm4), .int .i64 m.count] := hx1.bx hBm_0 (by omega)
  have hFm_1 : ∀ oo, w1.frozen? ⟨w.heap.size, oo, none⟩ = false := fun oo => (hx1.frozen (by omega)).trans (hFm_0 oo)
  have hBres_1 : Bx w1 (w.heap.size + 1) [.slice none 0 0, .int .i64 0, .slice none 0 0, .int .i64 0, .bool false, .bool false, .int .i64 0, .slice none 0 0, .slice none 0 0, .int .i64 0] := hx1.bx hBres_0 (by omega)
  have hFres_1 : ∀ oo, w1.frozen? ⟨w.heap.size + 1, oo, none⟩ = false := fun oo => (hx1.frozen (by omega)).trans (hFres_0 oo)
  clear hBm_0 hFm_0 hBres_0 hFres_0
  clear hy
  (refine Plan.float_step (v := ?_) rfl (by rfl) (fun _ _ _ h => h) (fun w' hSw => ?_) ?_; rotate_left; · (go_simp; try with_reducible rfl)); (try simp only [Act.put, List.setIfInBounds_toArray, List.set_cons_zero, List.set_cons_succ])
  refine Plan.chain_step rfl (fun K hK => ?_)
  go_simp
  refine (cloneInts_any m.mem _ _ (hm2.ext he1) hn2).mono ?_
  rintro e w2 ⟨r2, F2, rfl, hr2, hf2, hy⟩
  refine hK.out _ _ (Ext.trans hx1 hy) ?_
  clear hK
  (try simp only [Act.put, List.setIfInBounds_toArray, List.set_cons_zero, List.set_cons_succ])
  have hx2 : Ext w1 w2 := Ext.trans (Ext.auto) hy
  have hs2 := hx2.size
  have he2 : Ext w w2 := he1.trans hx2
  have hBm_2 : Bx w2 (w.heap.size) [(.slice Am1 m.regs.length cm1), .int .i64 m.pc, (.slice Am2 m.mem.length cm2), .int .i64 m.save, .bool m.lets, .bool m.waits, .int .i64 m.halt, (.slice Am3 m.ins.length cm3), (.slice Am4 m.outs.length cm4), .int .i64 m.count] := hx2.bx hBm_1 (by omega)
  have hFm_2 : ∀ oo, w2.frozen? ⟨w.heap.size, oo, none⟩ = false := fun oo => (hx2.frozen (by omega)).trans (hFm_1 oo)
  have hBres_2 : Bx w2 (w.heap.size + 1) [.slice none 0 0, .int .i64 0, .slice none 0 0, .int .i64 0, .bool false, .bool false, .int .i64 0, .slice none 0 0, .slice none 0 0, .int .i64 0] := hx2.bx hBres_1 (by omega)
  have hFres_2 : ∀ oo, w2.frozen? ⟨w.heap.size + 1, oo, none⟩ = false := fun oo => (hx2.frozen (by omega)).trans (hFres_1 oo)
  clear hBm_1 hFm_1 hBres_1 hFres_1
  clear hy
  refine Plan.chain_step rfl (fun K hK => ?_)
  go_simp
  refine (cloneInts_any m.ins _ _ (hm3.ext he2) hn3).mono ?_
  rintro e w3 ⟨r3, F3, rfl, hr3, hf3, hy⟩
  refine hK.out _ _ (Ext.trans (Ext.trans hx1 hx2) hy) ?_
  clear hK
  (try simp only [Act.put, List.setIfInBounds_toArray, List.set_cons_zero, List.set_cons_succ])
  have hx3 : Ext w2 w3 := Ext.trans (Ext.auto) hy
  have hs3 := hx3.size
  have he3 : Ext w w3 := he2.trans hx3
  have hBm_3 : Bx w3 (w.heap.size) [(.slice Am1 m.regs.length cm1), .int .i64 m.pc, (.slice Am2 m.mem.length cm2), .int .i64 m.save, .bool m.lets, .bool m.waits, .int .i64 m.halt, (.slice Am3 m.ins.length cm3), (.slice Am4 m.outs.length cm4), .int .i64 m.count] := hx3.bx hBm_2 (by omega)
  have hFm_3 : ∀ oo, w3.frozen? ⟨w.heap.size, oo, none⟩ = false := fun oo => (hx3.frozen (by omega)).trans (hFm_2 oo)
  have hBres_3 : Bx w3 (w.heap.size + 1) [.slice none 0 0, .int .i64 0, .slice none 0 0, .int .i64 0, .bool false, .bool false, .int .i64 0, .slice none 0 0, .slice none 0 0, .int .i64 0] := hx3.bx hBres_2 (by omega)
  have hFres_3 : ∀ oo, w3.frozen? ⟨w.heap.size + 1, oo, none⟩ = false := fun oo => (hx3.frozen (by omega)).trans (hFres_2 oo)
  clear hBm_2 hFm_2 hBres_2 hFres_2
  clear hy
  refine Plan.chain_step rfl (fun K hK => ?_)
  go_simp
  refine (cloneInts_any m.outs _ _ (hm4.ext he3) hn4).mono ?_
  rintro e w4 ⟨r4, F4, rfl, hr4, hf4, hy⟩
  refine hK.out _ _ (Ext.trans (Ext.trans (Ext.trans hx1 hx2) hx3) hy) ?_
  clear hK
  (try simp only [Act.put, List.setIfInBounds_toArray, List.set_cons_zero, List.set_cons_succ])
  have hx4 : Ext w3 w4 := Ext.trans (Ext.auto) hy
  have hs4 := hx4.size
  have he4 : Ext w w4 := he3.trans hx4
  have hBm_4 : Bx w4 (w.heap.size) [(.slice Am1 m.regs.length cm1), .int .i64 m.pc, (.slice Am2 m.mem.length cm2), .int .i64 m.save, .bool m.lets, .bool m.waits, .int .i64 m.halt, (.slice Am3 m.ins.length cm3), (.slice Am4 m.outs.length cm4), .int .i64 m.count] := hx4.bx hBm_3 (by omega)
  have hFm_4 : ∀ oo, w4.frozen? ⟨w.heap.size, oo, none⟩ = false := fun oo => (hx4.frozen (by omega)).trans (hFm_3 oo)
  have hBres_4 : Bx w4 (w.heap.size + 1) [.slice none 0 0, .int .i64 0, .slice none 0 0, .int .i64 0, .bool false, .bool false, .int .i64 0, .slice none 0 0, .slice none 0 0, .int .i64 0] := hx4.bx hBres_3 (by omega)
  have hFres_4 : ∀ oo, w4.frozen? ⟨w.heap.size + 1, oo, none⟩ = false := fun oo => (hx4.frozen (by omega)).trans (hFres_3 oo)
  clear hBm_3 hFm_3 hBres_3 hFres_3
  clear hy
  refine Plan.tail_step ?_
  simp only [List.drop_succ_cons, List.drop_zero]
  clear hS
  clear xm0 xm1 xm2 xm3 xm4 xm5 xm6 xm7 xm8 xm9 ym
  obtain ⟨B1, d1, rfl, -, -⟩ := hr1.sl.form
  obtain ⟨B2, d2, rfl, -, -⟩ := hr2.sl.form
  obtain ⟨B3, d3, rfl, -, -⟩ := hr3.sl.form
  obtain ⟨B4, d4, rfl, -, -⟩ := hr4.sl.form
  have ym : w.heap.size < w4.heap.size := by omega
  have xm0 := hBm_4 0 _ rfl
  have xm1 := hBm_4 1 _ rfl
  have xm2 := hBm_4 2 _ rfl
  have xm3 := hBm_4 3 _ rfl
  have xm4 := hBm_4 4 _ rfl
  have xm5 := hBm_4 5 _ rfl
  have xm6 := hBm_4 6 _ rfl
  have xm7 := hBm_4 7 _ rfl
  have xm8 := hBm_4 8 _ rfl
  have xm9 := hBm_4 9 _ rfl
  have fm := hFm_4
  have yres : w.heap.size + 1 < w4.heap.size := by omega
  have xres0 := hBres_4 0 _ rfl
  have xres1 := hBres_4 1 _ rfl
  have xres2 := hBres_4 2 _ rfl
  have xres3 := hBres_4 3 _ rfl
  have xres4 := hBres_4 4 _ rfl
  have xres5 := hBres_4 5 _ rfl
  have xres6 := hBres_4 6 _ rfl
  have xres7 := hBres_4 7 _ rfl
  have xres8 := hBres_4 8 _ rfl
  have xres9 := hBres_4 9 _ rfl
  have fres := hFres_4
  go_wp2
  refine bodyPost_ret (v := .agg #[(.slice B1 m.regs.length d1), .int .i64 m.pc, (.slice B2 m.mem.length d2), .int .i64 m.save, .bool m.lets, .bool m.waits, .int .i64 m.halt, (.slice B3 m.ins.length d3), (.slice B4 m.outs.length d4), .int .i64 m.count]) (by simp [results, Try.results63, go_sem, xres0, xres1, xres2, xres3, xres4, xres5, xres6, xres7, xres8, xres9]) rfl ⟨_, _, _, _, F1, F2, F3, F4, rfl, ?_, ?_, ?_, ?_, ?_, ?_⟩
  · exact OwnSl.stay hr1 (fun b hb => by
      have q := hf1.2 b hb; have q1 := q.1; have q2 := q.2; (try simp at q1 q2)
      repeat (first | rw [heap_set _ _ _ _ (by simp; omega)] | rw [Ext.heap (Ext.trans (Ext.trans hx2 hx3) hx4) (by omega)]))
  · exact OwnSl.stay hr2 (fun b hb => by
      have q := hf2.2 b hb; have q1 := q.1; have q2 := q.2; (try simp at q1 q2)
      repeat (first | rw [heap_set _ _ _ _ (by simp; omega)] | rw [Ext.heap (Ext.trans hx3 hx4) (by omega)]))
  · exact OwnSl.stay hr3 (fun b hb => by
      have q := hf3.2 b hb; have q1 := q.1; have q2 := q.2; (try simp at q1 q2)
      repeat (first | rw [heap_set _ _ _ _ (by simp; omega)] | rw [Ext.heap hx4 (by omega)]))
  · exact OwnSl.stay hr4 (fun b hb => by
      have q := hf4.2 b hb; have q1 := q.1; have q2 := q.2; (try simp at q1 q2)
      repeat (first | rw [heap_set _ _ _ _ (by simp; omega)] | rw [Ext.heap (Ext.refl _) (by omega)]))
  · exact Fr.mk2 (Fr.mk2 (w := w0) (w' := w3) (Fr.mk2 (w := w0) (w' := w2) hf1 hf2 (by first | omega | (simp; done) | (simp; omega)) (by first | omega | (simp; done) | (simp; omega)) (by first | omega | (simp; done) | (simp; omega)) (by first | omega | (simp; done) | (simp; omega)) (by first | omega | (simp; done) | (simp; omega))) hf3 (by first | omega | (simp; done) | (simp; omega)) (by first | omega | (simp; done) | (simp; omega)) (by first | omega | (simp; done) | (simp; omega)) (by first | omega | (simp; done) | (simp; omega)) (by first | omega | (simp; done) | (simp; omega))) hf4 (by first | omega | (simp; done) | (simp; omega)) (by first | omega | (simp; done) | (simp; omega)) (by first | omega | (simp; done) | (simp; omega)) (by first | omega | (simp; done) | (simp; omega)) (by first | omega | (simp; done) | (simp; omega))
  · exact (Ext.hold he4)

set_option maxHeartbeats 16000000 in
theorem cloneMachF_any (m : MchMach) (vm1 vm2 vm3 vm4 : Value) (w : World) (hm1 : Sl w (Old w) vm1 m.regs) (hm2 : Sl w (Old w) vm2 m.mem) (hm3 : Sl w (Old w) vm3 m.ins) (hm4 : Sl w (Old w) vm4 m.outs) (hn1 : m.regs.length ≤ 4194304) (hn2 : m.mem.length ≤ 4194304) (hn3 : m.ins.length ≤ 4194304) (hn4 : m.outs.length ≤ 4194304) :
    Calls Try.prog 63 #[.agg #[vm1, .int .i64 m.pc, vm2, .int .i64 m.save, .bool m.lets, .bool m.waits, .int .i64 m.halt, vm3, vm4, .int .i64 m.count]] w fun e w' => ∃ (r1 r2 r3 r4 : Value) (F1 F2 F3 : List Nat) (Fs : List (List Nat)) (xs : List Value), e = .returned (.agg #[r1, .int .i64 m.pc, r2, .int .i64 m.save, .bool m.lets, .bool m.waits, .int .i64 m.halt, r3, r4, .int .i64 m.count]) ∧ OwnSl w' r1 m.regs F1 ∧ OwnSl w' r2 m.mem F2 ∧ OwnSl w' r3 m.ins F3 ∧ App w w' 3 r4 m.outs Fs xs ∧ Fs.flatten = [] ∧ Fr w w' (F1 ++ F2 ++ F3) ∧ (∀ q, r4.ownBlock = some q → q ∉ F1 ++ F2 ++ F3) ∧ Cap 3 w' r1 ∧ (∀ q, r1.ownBlock = some q → w.heap.size ≤ q) ∧ Ext w w' := by
  obtain ⟨Am1, cm1, rfl, hlm1, hmm1⟩ := hm1.form
  obtain ⟨Am2, cm2, rfl, hlm2, hmm2⟩ := hm2.form
  obtain ⟨Am3, cm3, rfl, hlm3, hmm3⟩ := hm3.form
  obtain ⟨Am4, cm4, rfl, hlm4, hmm4⟩ := hm4.form
  go_enter Try.func63, Try.ntmps63
  go_wp2_with fail
  have he0 : Ext w ((w.alloc (Obj.cells #[(.slice Am1 m.regs.length cm1), .int .i64 m.pc, (.slice Am2 m.mem.length cm2), .int .i64 m.save, .bool m.lets, .bool m.waits, .int .i64 m.halt, (.slice Am3 m.ins.length cm3), (.slice Am4 m.outs.length cm4), .int .i64 m.count] 46)).alloc (Obj.cells #[.slice none 0 0, .int .i64 0, .slice none 0 0, .int .i64 0, .bool false, .bool false, .int .i64 0, .slice none 0 0, .slice none 0 0, .int .i64 0] 46)) := (Ext.auto)
  have hs0 : w.heap.size + 2 ≤ (((w.alloc (Obj.cells #[(.slice Am1 m.regs.length cm1), .int .i64 m.pc, (.slice Am2 m.mem.length cm2), .int .i64 m.save, .bool m.lets, .bool m.waits, .int .i64 m.halt, (.slice Am3 m.ins.length cm3), (.slice Am4 m.outs.length cm4), .int .i64 m.count] 46)).alloc (Obj.cells #[.slice none 0 0, .int .i64 0, .slice none 0 0, .int .i64 0, .bool false, .bool false, .int .i64 0, .slice none 0 0, .slice none 0 0, .int .i64 0] 46))).heap.size := by simp
  have hq0 := hide (show (((w.alloc (Obj.cells #[(.slice Am1 m.regs.length cm1), .int .i64 m.pc, (.slice Am2 m.mem.length cm2), .int .i64 m.save, .bool m.lets, .bool m.waits, .int .i64 m.halt, (.slice Am3 m.ins.length cm3), (.slice Am4 m.outs.length cm4), .int .i64 m.count] 46)).alloc (Obj.cells #[.slice none 0 0, .int .i64 0, .slice none 0 0, .int .i64 0, .bool false, .bool false, .int .i64 0, .slice none 0 0, .slice none 0 0, .int .i64 0] 46))).heap.size = w.heap.size + 2 by simp)
  have hBm_0 : Bx ((w.alloc (Obj.cells #[(.slice Am1 m.regs.length cm1), .int .i64 m.pc, (.slice Am2 m.mem.length cm2), .int .i64 m.save, .bool m.lets, .bool m.waits, .int .i64 m.halt, (.slice Am3 m.ins.length cm3), (.slice Am4 m.outs.length cm4), .int .i64 m.count] 46)).alloc (Obj.cells #[.slice none 0 0, .int .i64 0, .slice none 0 0, .int .i64 0, .bool false, .bool false, .int .i64 0, .slice none 0 0, .slice none 0 0, .int .i64 0] 46)) (w.heap.size) [(.slice Am1 m.regs.length cm1), .int .i64 m.pc, (.slice Am2 m.mem.length cm2), .int .i64 m.save, .bool m.lets, .bool m.waits, .int .i64 m.halt, (.slice Am3 m.ins.length cm3), (.slice Am4 m.outs.length cm4), .int .i64 m.count] := (by have := (Bx.alloc (Bx.new w #[(.slice Am1 m.regs.length cm1), .int .i64 m.pc, (.slice Am2 m.mem.length cm2), .int .i64 m.save, .bool m.lets, .bool m.waits, .int .i64 m.halt, (.slice Am3 m.ins.length cm3), (.slice Am4 m.outs.length cm4), .int .i64 m.count] 46) (by simp) #[.slice none 0 0, .int .i64 0, .slice none 0 0, .int .i64 0, .bool false, .bool false, .int .i64 0, .slice none 0 0, .slice none 0 0, .int .i64 0] 46); simpa using this)
  have hFm_0 : ∀ oo, (((w.alloc (Obj.cells #[(.slice Am1 m.regs.length cm1), .int .i64 m.pc, (.slice Am2 m.mem.length cm2), .int .i64 m.save, .bool m.lets, .bool m.waits, .int .i64 m.halt, (.slice Am3 m.ins.length cm3), (.slice Am4 m.outs.length cm4), .int .i64 m.count] 46)).alloc (Obj.cells #[.slice none 0 0, .int .i64 0, .slice none 0 0, .int .i64 0, .bool false, .bool false, .int .i64 0, .slice none 0 0, .slice none 0 0, .int .i64 0] 46))).frozen? ⟨w.heap.size, oo, none⟩ = false := fun oo => by simp
  have hBres_0 : Bx ((w.alloc (Obj.cells #[(.slice Am1 m.regs.length cm1), .int .i64 m.pc, (.slice Am2 m.mem.length cm2), .int .i64 m.save, .bool m.lets, .bool m.waits, .int .i64 m.halt, (.slice Am3 m.ins.length cm3), (.slice Am4 m.outs.length cm4), .int .i64 m.count] 46)).alloc (Obj.cells #[.slice none 0 0, .int .i64 0, .slice none 0 0, .int .i64 0, .bool false, .bool false, .int .i64 0, .slice none 0 0, .slice none 0 0, .int .i64 0] 46)) (w.heap.size + 1) [.slice none 0 0, .int .i64 0, .slice none 0 0, .int .i64 0, .bool false, .bool false, .int .i64 0, .slice none 0 0, .slice none 0 0, .int .i64 0] := (by have := (Bx.new (w.alloc (Obj.cells #[(.slice Am1 m.regs.length cm1), .int .i64 m.pc, (.slice Am2 m.mem.length cm2), .int .i64 m.save, .bool m.lets, .bool m.waits, .int .i64 m.halt, (.slice Am3 m.ins.length cm3), (.slice Am4 m.outs.length cm4), .int .i64 m.count] 46)) #[.slice none 0 0, .int .i64 0, .slice none 0 0, .int .i64 0, .bool false, .bool false, .int .i64 0, .slice none 0 0, .slice none 0 0, .int .i64 0] 46); simpa using this)
  have hFres_0 : ∀ oo, (((w.alloc (Obj.cells #[(.slice Am1 m.regs.length cm1), .int .i64 m.pc, (.slice Am2 m.mem.length cm2), .int .i64 m.save, .bool m.lets, .bool m.waits, .int .i64 m.halt, (.slice Am3 m.ins.length cm3), (.slice Am4 m.outs.length cm4), .int .i64 m.count] 46)).alloc (Obj.cells #[.slice none 0 0, .int .i64 0, .slice none 0 0, .int .i64 0, .bool false, .bool false, .int .i64 0, .slice none 0 0, .slice none 0 0, .int .i64 0] 46))).frozen? ⟨w.heap.size + 1, oo, none⟩ = false := fun oo => by simp
  generalize ((w.alloc (Obj.cells #[(.slice Am1 m.regs.length cm1), .int .i64 m.pc, (.slice Am2 m.mem.length cm2), .int .i64 m.save, .bool m.lets, .bool m.waits, .int .i64 m.halt, (.slice Am3 m.ins.length cm3), (.slice Am4 m.outs.length cm4), .int .i64 m.count] 46)).alloc (Obj.cells #[.slice none 0 0, .int .i64 0, .slice none 0 0, .int .i64 0, .bool false, .bool false, .int .i64 0, .slice none 0 0, .slice none 0 0, .int .i64 0] 46)) = w0 at *
  have ym : w.heap.size < w0.heap.size := by omega
  have xm0 := hBm_0 0 _ rfl
  have xm1 := hBm_0 1 _ rfl
  have xm2 := hBm_0 2 _ rfl
  have xm3 := hBm_0 3 _ rfl
  have xm4 := hBm_0 4 _ rfl
  have xm5 := hBm_0 5 _ rfl
  have xm6 := hBm_0 6 _ rfl
  have xm7 := hBm_0 7 _ rfl
  have xm8 := hBm_0 8 _ rfl
  have xm9 := hBm_0 9 _ rfl
  go_wp2_with fail
  have hS : ∀ w', Ext w0 w' → ∀ bb oo, bb < w0.heap.size → w'.cell? ⟨bb, oo, none⟩ = w0.cell? ⟨bb, oo, none⟩ := fun w' hx bb oo hb => hx.cell hb
  refine wp_region_plan (fun w' => Ext w0 w') 13 (.float 0 (.float 1 (.float 3 (.float 4 (.float 6 (.float 7 (.float 9 (.float 10 (.chain 2 (.float 12 (.chain 5 (.chain 8 (.chain 11 (.tail 13)))))))))))))) (by kernel_rfl) (by kernel_rfl) (Ext.refl _).drew ?_
  iterate 8 ((refine Plan.float_step (v := ?_) rfl (by rfl) (fun _ _ _ h => h) (fun w' hSw => ?_) ?_; rotate_left; · (go_simp; try with_reducible rfl)); (try simp only [Act.put, List.setIfInBounds_toArray, List.set_cons_zero, List.set_cons_succ]))
  refine Plan.chain_step rfl (fun K hK => ?_)
  go_simp
  refine (cloneIntsC_any m.regs _ _ (hm1.ext (Ext.trans he0 (Ext.auto))) hn1).mono ?_
  rintro e w1 ⟨r1, F1, rfl, hr1, hf1, hCp, hLo, hy⟩
  refine hK.out _ _ (Ext.trans (Ext.auto) hy) ?_
  clear hK
  (try simp only [Act.put, List.setIfInBounds_toArray, List.set_cons_zero, List.set_cons_succ])
  have hx1 : Ext w0 w1 := Ext.trans (Ext.auto) hy
  have hs1 := hx1.size
  have he1 : Ext w w1 := he0.trans hx1
  have hBm_1 : Bx w1 (w.heap.size) [(.slice Am1 m.regs.length cm1), .int .i64 m.pc, (.slice Am2 m.mem.length cm2), .int .i64 m.save, .bool m.lets, .bool m.waits, .int .i64 m.halt, (.slice Am3 m.ins.length cm3), (.slice Am4 m.outs.length cm4), .int .i64 m.count] := hx1.bx hBm_0 (by omega)
  have hFm_1 : ∀ oo, w1.frozen? ⟨w.heap.size, oo, none⟩ = false := fun oo => (hx1.frozen (by omega)).trans (hFm_0 oo)
  have hBres_1 : Bx w1 (w.heap.size + 1) [.slice none 0 0, .int .i64 0, .slice none 0 0, .int .i64 0, .bool false, .bool false, .int .i64 0, .slice none 0 0, .slice none 0 0, .int .i64 0] := hx1.bx hBres_0 (by omega)
  have hFres_1 : ∀ oo, w1.frozen? ⟨w.heap.size + 1, oo, none⟩ = false := fun oo => (hx1.frozen (by omega)).trans (hFres_0 oo)
  clear hBm_0 hFm_0 hBres_0 hFres_0
  clear hy
  (refine Plan.float_step (v := ?_) rfl (by rfl) (fun _ _ _ h => h) (fun w' hSw => ?_) ?_; rotate_left; · (go_simp; try with_reducible rfl)); (try simp only [Act.put, List.setIfInBounds_toArray, List.set_cons_zero, List.set_cons_succ])
  refine Plan.chain_step rfl (fun K hK => ?_)
  go_simp
  refine (cloneInts_any m.mem _ _ (hm2.ext he1) hn2).mono ?_
  rintro e w2 ⟨r2, F2, rfl, hr2, hf2, hy⟩
  refine hK.out _ _ (Ext.trans hx1 hy) ?_
  clear hK
  (try simp only [Act.put, List.setIfInBounds_toArray, List.set_cons_zero, List.set_cons_succ])
  have hx2 : Ext w1 w2 := Ext.trans (Ext.auto) hy
  have hs2 := hx2.size
  have he2 : Ext w w2 := he1.trans hx2
  have hBm_2 : Bx w2 (w.heap.size) [(.slice Am1 m.regs.length cm1), .int .i64 m.pc, (.slice Am2 m.mem.length cm2), .int .i64 m.save, .bool m.lets, .bool m.waits, .int .i64 m.halt, (.slice Am3 m.ins.length cm3), (.slice Am4 m.outs.length cm4), .int .i64 m.count] := hx2.bx hBm_1 (by omega)
  have hFm_2 : ∀ oo, w2.frozen? ⟨w.heap.size, oo, none⟩ = false := fun oo => (hx2.frozen (by omega)).trans (hFm_1 oo)
  have hBres_2 : Bx w2 (w.heap.size + 1) [.slice none 0 0, .int .i64 0, .slice none 0 0, .int .i64 0, .bool false, .bool false, .int .i64 0, .slice none 0 0, .slice none 0 0, .int .i64 0] := hx2.bx hBres_1 (by omega)
  have hFres_2 : ∀ oo, w2.frozen? ⟨w.heap.size + 1, oo, none⟩ = false := fun oo => (hx2.frozen (by omega)).trans (hFres_1 oo)
  clear hBm_1 hFm_1 hBres_1 hFres_1
  clear hy
  refine Plan.chain_step rfl (fun K hK => ?_)
  go_simp
  refine (cloneInts_any m.ins _ _ (hm3.ext he2) hn3).mono ?_
  rintro e w3 ⟨r3, F3, rfl, hr3, hf3, hy⟩
  refine hK.out _ _ (Ext.trans (Ext.trans hx1 hx2) hy) ?_
  clear hK
  (try simp only [Act.put, List.setIfInBounds_toArray, List.set_cons_zero, List.set_cons_succ])
  have hx3 : Ext w2 w3 := Ext.trans (Ext.auto) hy
  have hs3 := hx3.size
  have he3 : Ext w w3 := he2.trans hx3
  have hBm_3 : Bx w3 (w.heap.size) [(.slice Am1 m.regs.length cm1), .int .i64 m.pc, (.slice Am2 m.mem.length cm2), .int .i64 m.save, .bool m.lets, .bool m.waits, .int .i64 m.halt, (.slice Am3 m.ins.length cm3), (.slice Am4 m.outs.length cm4), .int .i64 m.count] := hx3.bx hBm_2 (by omega)
  have hFm_3 : ∀ oo, w3.frozen? ⟨w.heap.size, oo, none⟩ = false := fun oo => (hx3.frozen (by omega)).trans (hFm_2 oo)
  have hBres_3 : Bx w3 (w.heap.size + 1) [.slice none 0 0, .int .i64 0, .slice none 0 0, .int .i64 0, .bool false, .bool false, .int .i64 0, .slice none 0 0, .slice none 0 0, .int .i64 0] := hx3.bx hBres_2 (by omega)
  have hFres_3 : ∀ oo, w3.frozen? ⟨w.heap.size + 1, oo, none⟩ = false := fun oo => (hx3.frozen (by omega)).trans (hFres_2 oo)
  clear hBm_2 hFm_2 hBres_2 hFres_2
  clear hy
  refine Plan.chain_step rfl (fun K hK => ?_)
  go_simp
  refine (cloneIntsApp_any m.outs _ _ (hm4.ext he3) hn4).mono ?_
  rintro e w4 ⟨r4, Fs, xs, rfl, hA, hfl, hy⟩
  refine hK.out _ _ (Ext.trans (Ext.trans (Ext.trans hx1 hx2) hx3) hy) ?_
  clear hK
  (try simp only [Act.put, List.setIfInBounds_toArray, List.set_cons_zero, List.set_cons_succ])
  have hx4 : Ext w3 w4 := Ext.trans (Ext.auto) hy
  have hs4 := hx4.size
  have he4 : Ext w w4 := he3.trans hx4
  have hBm_4 : Bx w4 (w.heap.size) [(.slice Am1 m.regs.length cm1), .int .i64 m.pc, (.slice Am2 m.mem.length cm2), .int .i64 m.save, .bool m.lets, .bool m.waits, .int .i64 m.halt, (.slice Am3 m.ins.length cm3), (.slice Am4 m.outs.length cm4), .int .i64 m.count] := hx4.bx hBm_3 (by omega)
  have hFm_4 : ∀ oo, w4.frozen? ⟨w.heap.size, oo, none⟩ = false := fun oo => (hx4.frozen (by omega)).trans (hFm_3 oo)
  have hBres_4 : Bx w4 (w.heap.size + 1) [.slice none 0 0, .int .i64 0, .slice none 0 0, .int .i64 0, .bool false, .bool false, .int .i64 0, .slice none 0 0, .slice none 0 0, .int .i64 0] := hx4.bx hBres_3 (by omega)
  have hFres_4 : ∀ oo, w4.frozen? ⟨w.heap.size + 1, oo, none⟩ = false := fun oo => (hx4.frozen (by omega)).trans (hFres_3 oo)
  clear hBm_3 hFm_3 hBres_3 hFres_3
  clear hy
  refine Plan.tail_step ?_
  simp only [List.drop_succ_cons, List.drop_zero]
  clear hS
  clear xm0 xm1 xm2 xm3 xm4 xm5 xm6 xm7 xm8 xm9 ym
  obtain ⟨B1, d1, rfl, -, -⟩ := hr1.sl.form
  obtain ⟨B2, d2, rfl, -, -⟩ := hr2.sl.form
  obtain ⟨B3, d3, rfl, -, -⟩ := hr3.sl.form
  have hA4 := hA.row.lt
  have hB0 := hA.down he3
  obtain ⟨F9, hO9, hF9⟩ := hA.done
  obtain ⟨B4, d4, rfl, -, -⟩ := hO9.sl.form
  clear hO9 hF9 hA
  have ym : w.heap.size < w4.heap.size := by omega
  have xm0 := hBm_4 0 _ rfl
  have xm1 := hBm_4 1 _ rfl
  have xm2 := hBm_4 2 _ rfl
  have xm3 := hBm_4 3 _ rfl
  have xm4 := hBm_4 4 _ rfl
  have xm5 := hBm_4 5 _ rfl
  have xm6 := hBm_4 6 _ rfl
  have xm7 := hBm_4 7 _ rfl
  have xm8 := hBm_4 8 _ rfl
  have xm9 := hBm_4 9 _ rfl
  have fm := hFm_4
  have yres : w.heap.size + 1 < w4.heap.size := by omega
  have xres0 := hBres_4 0 _ rfl
  have xres1 := hBres_4 1 _ rfl
  have xres2 := hBres_4 2 _ rfl
  have xres3 := hBres_4 3 _ rfl
  have xres4 := hBres_4 4 _ rfl
  have xres5 := hBres_4 5 _ rfl
  have xres6 := hBres_4 6 _ rfl
  have xres7 := hBres_4 7 _ rfl
  have xres8 := hBres_4 8 _ rfl
  have xres9 := hBres_4 9 _ rfl
  have fres := hFres_4
  go_wp2
  refine bodyPost_ret (v := .agg #[(.slice B1 m.regs.length d1), .int .i64 m.pc, (.slice B2 m.mem.length d2), .int .i64 m.save, .bool m.lets, .bool m.waits, .int .i64 m.halt, (.slice B3 m.ins.length d3), (.slice B4 m.outs.length d4), .int .i64 m.count]) (by simp [results, Try.results63, go_sem, xres0, xres1, xres2, xres3, xres4, xres5, xres6, xres7, xres8, xres9]) rfl ⟨_, _, _, _, F1, F2, F3, Fs, xs, rfl, ?_, ?_, ?_, ?_, hfl, ?_, ?_, ?_, ?_, ?_⟩
  · exact OwnSl.stay hr1 (fun b hb => by
      have q := hf1.2 b hb; have q1 := q.1; have q2 := q.2; (try simp at q1 q2)
      repeat (first | rw [heap_set _ _ _ _ (by simp; omega)] | rw [Ext.heap (Ext.trans (Ext.trans hx2 hx3) hx4) (by omega)]))
  · exact OwnSl.stay hr2 (fun b hb => by
      have q := hf2.2 b hb; have q1 := q.1; have q2 := q.2; (try simp at q1 q2)
      repeat (first | rw [heap_set _ _ _ _ (by simp; omega)] | rw [Ext.heap (Ext.trans hx3 hx4) (by omega)]))
  · exact OwnSl.stay hr3 (fun b hb => by
      have q := hf3.2 b hb; have q1 := q.1; have q2 := q.2; (try simp at q1 q2)
      repeat (first | rw [heap_set _ _ _ _ (by simp; omega)] | rw [Ext.heap hx4 (by omega)]))
  · repeat (refine App.set ?_ _ (fun q => by have := (hA4 _ q).1; (try simp at this); omega) (by rw [hfl]; simp) (by first | omega | (simp; done) | (simp; omega)))
    exact hB0
  · exact Fr.mk2 (Fr.mk2 (w := w0) (w' := w2) hf1 hf2 (by first | omega | (simp; done) | (simp; omega)) (by first | omega | (simp; done) | (simp; omega)) (by first | omega | (simp; done) | (simp; omega)) (by first | omega | (simp; done) | (simp; omega)) (by first | omega | (simp; done) | (simp; omega))) hf3 (by first | omega | (simp; done) | (simp; omega)) (by first | omega | (simp; done) | (simp; omega)) (by first | omega | (simp; done) | (simp; omega)) (by first | omega | (simp; done) | (simp; omega)) (by first | omega | (simp; done) | (simp; omega))
  · intro q hq hm
    have h4 := (hA4 q hq).1
    rcases List.mem_append.1 hm with hm | hm
    · rcases List.mem_append.1 hm with hm | hm
      · have := (hf1.2 q hm).2; omega
      · have := (hf2.2 q hm).2; omega
    · have := (hf3.2 q hm).2; omega
  · repeat (refine Cap.set ?_ _ _)
    exact hCp.ext (Ext.trans (Ext.trans hx2 hx3) hx4)
  · exact fun q hq => by have := hLo q hq; (try simp at this); omega
  · exact (Ext.hold he4)

set_option maxHeartbeats 16000000 in
theorem l3Copy_any (m : MchMach) (vm1 vm2 vm3 vm4 : Value) (w : World) (hm1 : Sl w (Old w) vm1 m.regs) (hm2 : Sl w (Old w) vm2 m.mem) (hm3 : Sl w (Old w) vm3 m.ins) (hm4 : Sl w (Old w) vm4 m.outs) (hn1 : m.regs.length ≤ 4194304) (hn2 : m.mem.length ≤ 4194304) (hn3 : m.ins.length ≤ 4194304) (hn4 : m.outs.length ≤ 4194304) :
    Calls Try.prog 55 #[.agg #[vm1, .int .i64 m.pc, vm2, .int .i64 m.save, .bool m.lets, .bool m.waits, .int .i64 m.halt, vm3, vm4, .int .i64 m.count]] w fun e w' => ∃ (r1 r2 r3 r4 : Value) (F1 F2 F3 F4 : List Nat), e = .returned (.agg #[r1, .int .i64 m.pc, r2, .int .i64 m.save, .bool m.lets, .bool m.waits, .int .i64 m.halt, r3, r4, .int .i64 m.count]) ∧ OwnSl w' r1 m.regs F1 ∧ OwnSl w' r2 m.mem F2 ∧ OwnSl w' r3 m.ins F3 ∧ OwnSl w' r4 m.outs F4 ∧ Fr w w' (F1 ++ F2 ++ F3 ++ F4) ∧ Ext w w' := by
  obtain ⟨Am1, cm1, rfl, hlm1, hmm1⟩ := hm1.form
  obtain ⟨Am2, cm2, rfl, hlm2, hmm2⟩ := hm2.form
  obtain ⟨Am3, cm3, rfl, hlm3, hmm3⟩ := hm3.form
  obtain ⟨Am4, cm4, rfl, hlm4, hmm4⟩ := hm4.form
  obtain ⟨i0, hi, hz0, hz1, hz2⟩ := info_parts infInt
  have HI := hide hi
  have HZ0 := hide hz0
  have HZ1 := hide hz1
  have HZ2 := hide hz2
  clear hi hz0 hz1 hz2
  go_enter Try.func55, Try.ntmps55
  go_upto_region 1 with fail
  have he0 : Ext w ((w.alloc (Obj.cells #[(.slice Am1 m.regs.length cm1), .int .i64 m.pc, (.slice Am2 m.mem.length cm2), .int .i64 m.save, .bool m.lets, .bool m.waits, .int .i64 m.halt, (.slice Am3 m.ins.length cm3), (.slice Am4 m.outs.length cm4), .int .i64 m.count] 46)).alloc (Obj.cells #[.slice none 0 0, .int .i64 0, .slice none 0 0, .int .i64 0, .bool false, .bool false, .int .i64 0, .slice none 0 0, .slice none 0 0, .int .i64 0] 46)) := (Ext.auto)
  have hs0 : w.heap.size + 2 ≤ (((w.alloc (Obj.cells #[(.slice Am1 m.regs.length cm1), .int .i64 m.pc, (.slice Am2 m.mem.length cm2), .int .i64 m.save, .bool m.lets, .bool m.waits, .int .i64 m.halt, (.slice Am3 m.ins.length cm3), (.slice Am4 m.outs.length cm4), .int .i64 m.count] 46)).alloc (Obj.cells #[.slice none 0 0, .int .i64 0, .slice none 0 0, .int .i64 0, .bool false, .bool false, .int .i64 0, .slice none 0 0, .slice none 0 0, .int .i64 0] 46))).heap.size := by simp
  have hq0 := hide (show (((w.alloc (Obj.cells #[(.slice Am1 m.regs.length cm1), .int .i64 m.pc, (.slice Am2 m.mem.length cm2), .int .i64 m.save, .bool m.lets, .bool m.waits, .int .i64 m.halt, (.slice Am3 m.ins.length cm3), (.slice Am4 m.outs.length cm4), .int .i64 m.count] 46)).alloc (Obj.cells #[.slice none 0 0, .int .i64 0, .slice none 0 0, .int .i64 0, .bool false, .bool false, .int .i64 0, .slice none 0 0, .slice none 0 0, .int .i64 0] 46))).heap.size = w.heap.size + 2 by simp)
  have hBm_0 : Bx ((w.alloc (Obj.cells #[(.slice Am1 m.regs.length cm1), .int .i64 m.pc, (.slice Am2 m.mem.length cm2), .int .i64 m.save, .bool m.lets, .bool m.waits, .int .i64 m.halt, (.slice Am3 m.ins.length cm3), (.slice Am4 m.outs.length cm4), .int .i64 m.count] 46)).alloc (Obj.cells #[.slice none 0 0, .int .i64 0, .slice none 0 0, .int .i64 0, .bool false, .bool false, .int .i64 0, .slice none 0 0, .slice none 0 0, .int .i64 0] 46)) (w.heap.size) [(.slice Am1 m.regs.length cm1), .int .i64 m.pc, (.slice Am2 m.mem.length cm2), .int .i64 m.save, .bool m.lets, .bool m.waits, .int .i64 m.halt, (.slice Am3 m.ins.length cm3), (.slice Am4 m.outs.length cm4), .int .i64 m.count] := (by have := (Bx.alloc (Bx.new w #[(.slice Am1 m.regs.length cm1), .int .i64 m.pc, (.slice Am2 m.mem.length cm2), .int .i64 m.save, .bool m.lets, .bool m.waits, .int .i64 m.halt, (.slice Am3 m.ins.length cm3), (.slice Am4 m.outs.length cm4), .int .i64 m.count] 46) (by simp) #[.slice none 0 0, .int .i64 0, .slice none 0 0, .int .i64 0, .bool false, .bool false, .int .i64 0, .slice none 0 0, .slice none 0 0, .int .i64 0] 46); simpa using this)
  have hFm_0 : ∀ oo, (((w.alloc (Obj.cells #[(.slice Am1 m.regs.length cm1), .int .i64 m.pc, (.slice Am2 m.mem.length cm2), .int .i64 m.save, .bool m.lets, .bool m.waits, .int .i64 m.halt, (.slice Am3 m.ins.length cm3), (.slice Am4 m.outs.length cm4), .int .i64 m.count] 46)).alloc (Obj.cells #[.slice none 0 0, .int .i64 0, .slice none 0 0, .int .i64 0, .bool false, .bool false, .int .i64 0, .slice none 0 0, .slice none 0 0, .int .i64 0] 46))).frozen? ⟨w.heap.size, oo, none⟩ = false := fun oo => by simp
  have hBres_0 : Bx ((w.alloc (Obj.cells #[(.slice Am1 m.regs.length cm1), .int .i64 m.pc, (.slice Am2 m.mem.length cm2), .int .i64 m.save, .bool m.lets, .bool m.waits, .int .i64 m.halt, (.slice Am3 m.ins.length cm3), (.slice Am4 m.outs.length cm4), .int .i64 m.count] 46)).alloc (Obj.cells #[.slice none 0 0, .int .i64 0, .slice none 0 0, .int .i64 0, .bool false, .bool false, .int .i64 0, .slice none 0 0, .slice none 0 0, .int .i64 0] 46)) (w.heap.size + 1) [.slice none 0 0, .int .i64 0, .slice none 0 0, .int .i64 0, .bool false, .bool false, .int .i64 0, .slice none 0 0, .slice none 0 0, .int .i64 0] := (by have := (Bx.new (w.alloc (Obj.cells #[(.slice Am1 m.regs.length cm1), .int .i64 m.pc, (.slice Am2 m.mem.length cm2), .int .i64 m.save, .bool m.lets, .bool m.waits, .int .i64 m.halt, (.slice Am3 m.ins.length cm3), (.slice Am4 m.outs.length cm4), .int .i64 m.count] 46)) #[.slice none 0 0, .int .i64 0, .slice none 0 0, .int .i64 0, .bool false, .bool false, .int .i64 0, .slice none 0 0, .slice none 0 0, .int .i64 0] 46); simpa using this)
  have hFres_0 : ∀ oo, (((w.alloc (Obj.cells #[(.slice Am1 m.regs.length cm1), .int .i64 m.pc, (.slice Am2 m.mem.length cm2), .int .i64 m.save, .bool m.lets, .bool m.waits, .int .i64 m.halt, (.slice Am3 m.ins.length cm3), (.slice Am4 m.outs.length cm4), .int .i64 m.count] 46)).alloc (Obj.cells #[.slice none 0 0, .int .i64 0, .slice none 0 0, .int .i64 0, .bool false, .bool false, .int .i64 0, .slice none 0 0, .slice none 0 0, .int .i64 0] 46))).frozen? ⟨w.heap.size + 1, oo, none⟩ = false := fun oo => by simp
  generalize ((w.alloc (Obj.cells #[(.slice Am1 m.regs.length cm1), .int .i64 m.pc, (.slice Am2 m.mem.length cm2), .int .i64 m.save, .bool m.lets, .bool m.waits, .int .i64 m.halt, (.slice Am3 m.ins.length cm3), (.slice Am4 m.outs.length cm4), .int .i64 m.count] 46)).alloc (Obj.cells #[.slice none 0 0, .int .i64 0, .slice none 0 0, .int .i64 0, .bool false, .bool false, .int .i64 0, .slice none 0 0, .slice none 0 0, .int .i64 0] 46)) = w0 at *
  have ym : w.heap.size < w0.heap.size := by omega
  have xm0 := hBm_0 0 _ rfl
  have xm1 := hBm_0 1 _ rfl
  have xm2 := hBm_0 2 _ rfl
  have xm3 := hBm_0 3 _ rfl
  have xm4 := hBm_0 4 _ rfl
  have xm5 := hBm_0 5 _ rfl
  have xm6 := hBm_0 6 _ rfl
  have xm7 := hBm_0 7 _ rfl
  have xm8 := hBm_0 8 _ rfl
  have xm9 := hBm_0 9 _ rfl
  go_upto_region 2 with fail
  clear xm0 xm1 xm2 xm3 xm4 xm5 xm6 xm7 xm8 xm9 ym
  have he1 : Ext w (w0.alloc (.cells #[(.slice Am1 m.regs.length cm1), .int .i64 m.pc, (.slice Am2 m.mem.length cm2), .int .i64 m.save, .bool m.lets, .bool m.waits, .int .i64 m.halt, (.slice Am3 m.ins.length cm3), (.slice Am4 m.outs.length cm4), .int .i64 m.count] 46)) := Ext.hold he0
  have hx1 : Ext w0 (w0.alloc (.cells #[(.slice Am1 m.regs.length cm1), .int .i64 m.pc, (.slice Am2 m.mem.length cm2), .int .i64 m.save, .bool m.lets, .bool m.waits, .int .i64 m.halt, (.slice Am3 m.ins.length cm3), (.slice Am4 m.outs.length cm4), .int .i64 m.count] 46)) := Ext.auto
  have hs1 : w0.heap.size + 1 = (w0.alloc (.cells #[(.slice Am1 m.regs.length cm1), .int .i64 m.pc, (.slice Am2 m.mem.length cm2), .int .i64 m.save, .bool m.lets, .bool m.waits, .int .i64 m.halt, (.slice Am3 m.ins.length cm3), (.slice Am4 m.outs.length cm4), .int .i64 m.count] 46)).heap.size := by simp
  have hBx_1 : Bx (w0.alloc (.cells #[(.slice Am1 m.regs.length cm1), .int .i64 m.pc, (.slice Am2 m.mem.length cm2), .int .i64 m.save, .bool m.lets, .bool m.waits, .int .i64 m.halt, (.slice Am3 m.ins.length cm3), (.slice Am4 m.outs.length cm4), .int .i64 m.count] 46)) w0.heap.size [(.slice Am1 m.regs.length cm1), .int .i64 m.pc, (.slice Am2 m.mem.length cm2), .int .i64 m.save, .bool m.lets, .bool m.waits, .int .i64 m.halt, (.slice Am3 m.ins.length cm3), (.slice Am4 m.outs.length cm4), .int .i64 m.count] := Bx.new w0 #[(.slice Am1 m.regs.length cm1), .int .i64 m.pc, (.slice Am2 m.mem.length cm2), .int .i64 m.save, .bool m.lets, .bool m.waits, .int .i64 m.halt, (.slice Am3 m.ins.length cm3), (.slice Am4 m.outs.length cm4), .int .i64 m.count] 46
  have hFx_1 : ∀ oo, (w0.alloc (.cells #[(.slice Am1 m.regs.length cm1), .int .i64 m.pc, (.slice Am2 m.mem.length cm2), .int .i64 m.save, .bool m.lets, .bool m.waits, .int .i64 m.halt, (.slice Am3 m.ins.length cm3), (.slice Am4 m.outs.length cm4), .int .i64 m.count] 46)).frozen? ⟨w0.heap.size, oo, none⟩ = false := fz_new w0 #[(.slice Am1 m.regs.length cm1), .int .i64 m.pc, (.slice Am2 m.mem.length cm2), .int .i64 m.save, .bool m.lets, .bool m.waits, .int .i64 m.halt, (.slice Am3 m.ins.length cm3), (.slice Am4 m.outs.length cm4), .int .i64 m.count] 46 rfl
  have hBm_1 : Bx (w0.alloc (.cells #[(.slice Am1 m.regs.length cm1), .int .i64 m.pc, (.slice Am2 m.mem.length cm2), .int .i64 m.save, .bool m.lets, .bool m.waits, .int .i64 m.halt, (.slice Am3 m.ins.length cm3), (.slice Am4 m.outs.length cm4), .int .i64 m.count] 46)) (w.heap.size) [(.slice Am1 m.regs.length cm1), .int .i64 m.pc, (.slice Am2 m.mem.length cm2), .int .i64 m.save, .bool m.lets, .bool m.waits, .int .i64 m.halt, (.slice Am3 m.ins.length cm3), (.slice Am4 m.outs.length cm4), .int .i64 m.count] := Bx.hold hBm_0
  have hBres_1 : Bx (w0.alloc (.cells #[(.slice Am1 m.regs.length cm1), .int .i64 m.pc, (.slice Am2 m.mem.length cm2), .int .i64 m.save, .bool m.lets, .bool m.waits, .int .i64 m.halt, (.slice Am3 m.ins.length cm3), (.slice Am4 m.outs.length cm4), .int .i64 m.count] 46)) (w.heap.size + 1) [.slice none 0 0, .int .i64 0, .slice none 0 0, .int .i64 0, .bool false, .bool false, .int .i64 0, .slice none 0 0, .slice none 0 0, .int .i64 0] := Bx.hold hBres_0
  have hFres_1 : ∀ oo, (w0.alloc (.cells #[(.slice Am1 m.regs.length cm1), .int .i64 m.pc, (.slice Am2 m.mem.length cm2), .int .i64 m.save, .bool m.lets, .bool m.waits, .int .i64 m.halt, (.slice Am3 m.ins.length cm3), (.slice Am4 m.outs.length cm4), .int .i64 m.count] 46)).frozen? ⟨w.heap.size + 1, oo, none⟩ = false := fz_hold hFres_0
  generalize (w0.alloc (.cells #[(.slice Am1 m.regs.length cm1), .int .i64 m.pc, (.slice Am2 m.mem.length cm2), .int .i64 m.save, .bool m.lets, .bool m.waits, .int .i64 m.halt, (.slice Am3 m.ins.length cm3), (.slice Am4 m.outs.length cm4), .int .i64 m.count] 46)) = w1 at *
  clear hBm_0 hBres_0 hFm_0 hFres_0
  have xm0 := hBm_1 0 _ rfl
  have xm1 := hBm_1 1 _ rfl
  have xm2 := hBm_1 2 _ rfl
  have xm3 := hBm_1 3 _ rfl
  have xm4 := hBm_1 4 _ rfl
  have xm5 := hBm_1 5 _ rfl
  have xm6 := hBm_1 6 _ rfl
  have xm7 := hBm_1 7 _ rfl
  have xm8 := hBm_1 8 _ rfl
  have xm9 := hBm_1 9 _ rfl
  have ym : w.heap.size < w1.heap.size := by omega
  have yx : w0.heap.size < w1.heap.size := by omega
  go_upto_region 3 with (at_builtin; go_must (refine wpList_append_flat (α := Int) (w0 := w1) rfl _ _ 41 rfl i0 _ 8 Try.underlying41 HI.out HZ0.out HZ1.out HZ2.out rfl (App.emptyAt w1 3 _ (by first | rfl | simp)) rfl _ m.regs (Old w) rfl (hm1.keep (Ext.old (Ext.hold he1)) (fun _ h => h)) (by simp [maxLen]; omega) (by simp; omega) ?_); intro v' w9 Fs' xs' hA; obtain ⟨F1, hr1, hf1⟩ := hA.done; have hy := hA.ext; clear hA; simp only [List.nil_append] at hr1; obtain ⟨B1, d1, rfl, -, -⟩ := hr1.sl.form; have hxx := hy.bx hBx_1 yx; have fx := fun oo => (hy.frozen yx).trans (hFx_1 oo); have yx9 := Nat.lt_of_lt_of_le yx hy.size; have xx0 := hxx 0 _ rfl; have xx1 := hxx 1 _ rfl; have xx2 := hxx 2 _ rfl; have xx3 := hxx 3 _ rfl; have xx4 := hxx 4 _ rfl; have xx5 := hxx 5 _ rfl; have xx6 := hxx 6 _ rfl; have xx7 := hxx 7 _ rfl; have xx8 := hxx 8 _ rfl; have xx9 := hxx 9 _ rfl)
  clear ym yx xm0 xx0 xm1 xx1 xm2 xx2 xm3 xx3 xm4 xx4 xm5 xx5 xm6 xx6 xm7 xx7 xm8 xx8 xm9 xx9
  have hs2 : w1.heap.size ≤ (w9.setCell ⟨w0.heap.size, 0, none⟩ (.slice B1 m.regs.length d1)).heap.size := by have := hy.size; simp; omega
  have he2 : Ext w (w9.setCell ⟨w0.heap.size, 0, none⟩ (.slice B1 m.regs.length d1)) := (he1.trans hy).setCell (by show w.heap.size ≤ w0.heap.size; omega) _
  have hBx_2 : Bx (w9.setCell ⟨w0.heap.size, 0, none⟩ (.slice B1 m.regs.length d1)) w0.heap.size [(.slice B1 m.regs.length d1), .int .i64 m.pc, (.slice Am2 m.mem.length cm2), .int .i64 m.save, .bool m.lets, .bool m.waits, .int .i64 m.halt, (.slice Am3 m.ins.length cm3), (.slice Am4 m.outs.length cm4), .int .i64 m.count] := by have := Bx.put hxx (j := 0) (by simp) (.slice B1 m.regs.length d1); simpa using this
  have hFx_2 : ∀ oo, (w9.setCell ⟨w0.heap.size, 0, none⟩ (.slice B1 m.regs.length d1)).frozen? ⟨w0.heap.size, oo, none⟩ = false := fz_set fx _ _
  have hBm_2 : Bx (w9.setCell ⟨w0.heap.size, 0, none⟩ (.slice B1 m.regs.length d1)) (w.heap.size) [(.slice Am1 m.regs.length cm1), .int .i64 m.pc, (.slice Am2 m.mem.length cm2), .int .i64 m.save, .bool m.lets, .bool m.waits, .int .i64 m.halt, (.slice Am3 m.ins.length cm3), (.slice Am4 m.outs.length cm4), .int .i64 m.count] := (hy.bx hBm_1 (by omega)).setCell (by show w0.heap.size ≠ w.heap.size; omega) _
  have hBres_2 : Bx (w9.setCell ⟨w0.heap.size, 0, none⟩ (.slice B1 m.regs.length d1)) (w.heap.size + 1) [.slice none 0 0, .int .i64 0, .slice none 0 0, .int .i64 0, .bool false, .bool false, .int .i64 0, .slice none 0 0, .slice none 0 0, .int .i64 0] := (hy.bx hBres_1 (by omega)).setCell (by show w0.heap.size ≠ w.heap.size + 1; omega) _
  have hFres_2 : ∀ oo, (w9.setCell ⟨w0.heap.size, 0, none⟩ (.slice B1 m.regs.length d1)).frozen? ⟨w.heap.size + 1, oo, none⟩ = false := fz_set (fun oo => (hy.frozen (by omega)).trans (hFres_1 oo)) _ _
  have hr1 := OwnSl.stay (w' := (w9.setCell ⟨w0.heap.size, 0, none⟩ (.slice B1 m.regs.length d1))) hr1 (fun b hb => by have q := hf1.2 b hb; have q1 := q.1; have q2 := q.2; rw [heap_set _ _ _ _ (by show w0.heap.size ≠ b; omega)])
  have hf1 : Fr w1 (w9.setCell ⟨w0.heap.size, 0, none⟩ (.slice B1 m.regs.length d1)) F1 := hf1.mk1 (Nat.le_refl _) (by simp)
  generalize (w9.setCell ⟨w0.heap.size, 0, none⟩ (.slice B1 m.regs.length d1)) = w2 at *
  clear hy hxx fx yx9 hBx_1 hFx_1 hBm_1 hBres_1 hFres_1
  have xm0 := hBm_2 0 _ rfl
  have xm1 := hBm_2 1 _ rfl
  have xm2 := hBm_2 2 _ rfl
  have xm3 := hBm_2 3 _ rfl
  have xm4 := hBm_2 4 _ rfl
  have xm5 := hBm_2 5 _ rfl
  have xm6 := hBm_2 6 _ rfl
  have xm7 := hBm_2 7 _ rfl
  have xm8 := hBm_2 8 _ rfl
  have xm9 := hBm_2 9 _ rfl
  have ym : w.heap.size < w2.heap.size := by omega
  have yx : w0.heap.size < w2.heap.size := by omega
  go_upto_region 4 with (at_builtin; go_must (refine wpList_append_flat (α := Int) (w0 := w2) rfl _ _ 41 rfl i0 _ 8 Try.underlying41 HI.out HZ0.out HZ1.out HZ2.out rfl (App.emptyAt w2 3 _ (by first | rfl | simp)) rfl _ m.mem (Old w) rfl (hm2.keep (Ext.old (Ext.hold he2)) (fun _ h => h)) (by simp [maxLen]; omega) (by simp; omega) ?_); intro v' w9 Fs' xs' hA; obtain ⟨F2, hr2, hf2⟩ := hA.done; have hy := hA.ext; clear hA; simp only [List.nil_append] at hr2; obtain ⟨B2, d2, rfl, -, -⟩ := hr2.sl.form; have hxx := hy.bx hBx_2 yx; have fx := fun oo => (hy.frozen yx).trans (hFx_2 oo); have yx9 := Nat.lt_of_lt_of_le yx hy.size; have xx0 := hxx 0 _ rfl; have xx1 := hxx 1 _ rfl; have xx2 := hxx 2 _ rfl; have xx3 := hxx 3 _ rfl; have xx4 := hxx 4 _ rfl; have xx5 := hxx 5 _ rfl; have xx6 := hxx 6 _ rfl; have xx7 := hxx 7 _ rfl; have xx8 := hxx 8 _ rfl; have xx9 := hxx 9 _ rfl)
  clear ym yx xm0 xx0 xm1 xx1 xm2 xx2 xm3 xx3 xm4 xx4 xm5 xx5 xm6 xx6 xm7 xx7 xm8 xx8 xm9 xx9
  have hs3 : w2.heap.size ≤ (w9.setCell ⟨w0.heap.size, 2, none⟩ (.slice B2 m.mem.length d2)).heap.size := by have := hy.size; simp; omega
  have he3 : Ext w (w9.setCell ⟨w0.heap.size, 2, none⟩ (.slice B2 m.mem.length d2)) := (he2.trans hy).setCell (by show w.heap.size ≤ w0.heap.size; omega) _
  have hBx_3 : Bx (w9.setCell ⟨w0.heap.size, 2, none⟩ (.slice B2 m.mem.length d2)) w0.heap.size [(.slice B1 m.regs.length d1), .int .i64 m.pc, (.slice B2 m.mem.length d2), .int .i64 m.save, .bool m.lets, .bool m.waits, .int .i64 m.halt, (.slice Am3 m.ins.length cm3), (.slice Am4 m.outs.length cm4), .int .i64 m.count] := by have := Bx.put hxx (j := 2) (by simp) (.slice B2 m.mem.length d2); simpa using this
  have hFx_3 : ∀ oo, (w9.setCell ⟨w0.heap.size, 2, none⟩ (.slice B2 m.mem.length d2)).frozen? ⟨w0.heap.size, oo, none⟩ = false := fz_set fx _ _
  have hBm_3 : Bx (w9.setCell ⟨w0.heap.size, 2, none⟩ (.slice B2 m.mem.length d2)) (w.heap.size) [(.slice Am1 m.regs.length cm1), .int .i64 m.pc, (.slice Am2 m.mem.length cm2), .int .i64 m.save, .bool m.lets, .bool m.waits, .int .i64 m.halt, (.slice Am3 m.ins.length cm3), (.slice Am4 m.outs.length cm4), .int .i64 m.count] := (hy.bx hBm_2 (by omega)).setCell (by show w0.heap.size ≠ w.heap.size; omega) _
  have hBres_3 : Bx (w9.setCell ⟨w0.heap.size, 2, none⟩ (.slice B2 m.mem.length d2)) (w.heap.size + 1) [.slice none 0 0, .int .i64 0, .slice none 0 0, .int .i64 0, .bool false, .bool false, .int .i64 0, .slice none 0 0, .slice none 0 0, .int .i64 0] := (hy.bx hBres_2 (by omega)).setCell (by show w0.heap.size ≠ w.heap.size + 1; omega) _
  have hFres_3 : ∀ oo, (w9.setCell ⟨w0.heap.size, 2, none⟩ (.slice B2 m.mem.length d2)).frozen? ⟨w.heap.size + 1, oo, none⟩ = false := fz_set (fun oo => (hy.frozen (by omega)).trans (hFres_2 oo)) _ _
  have hr1 := OwnSl.stay (w' := (w9.setCell ⟨w0.heap.size, 2, none⟩ (.slice B2 m.mem.length d2))) hr1 (fun b hb => by have q := hf1.2 b hb; have q1 := q.1; have q2 := q.2; rw [heap_set _ _ _ _ (by show w0.heap.size ≠ b; omega)]; exact hy.heap (by omega))
  have hr2 := OwnSl.stay (w' := (w9.setCell ⟨w0.heap.size, 2, none⟩ (.slice B2 m.mem.length d2))) hr2 (fun b hb => by have q := hf2.2 b hb; have q1 := q.1; have q2 := q.2; rw [heap_set _ _ _ _ (by show w0.heap.size ≠ b; omega)])
  have hf2 : Fr w2 (w9.setCell ⟨w0.heap.size, 2, none⟩ (.slice B2 m.mem.length d2)) F2 := hf2.mk1 (Nat.le_refl _) (by simp)
  generalize (w9.setCell ⟨w0.heap.size, 2, none⟩ (.slice B2 m.mem.length d2)) = w3 at *
  clear hy hxx fx yx9 hBx_2 hFx_2 hBm_2 hBres_2 hFres_2
  have xm0 := hBm_3 0 _ rfl
  have xm1 := hBm_3 1 _ rfl
  have xm2 := hBm_3 2 _ rfl
  have xm3 := hBm_3 3 _ rfl
  have xm4 := hBm_3 4 _ rfl
  have xm5 := hBm_3 5 _ rfl
  have xm6 := hBm_3 6 _ rfl
  have xm7 := hBm_3 7 _ rfl
  have xm8 := hBm_3 8 _ rfl
  have xm9 := hBm_3 9 _ rfl
  have ym : w.heap.size < w3.heap.size := by omega
  have yx : w0.heap.size < w3.heap.size := by omega
  go_upto_region 5 with (at_builtin; go_must (refine wpList_append_flat (α := Int) (w0 := w3) rfl _ _ 41 rfl i0 _ 8 Try.underlying41 HI.out HZ0.out HZ1.out HZ2.out rfl (App.emptyAt w3 3 _ (by first | rfl | simp)) rfl _ m.ins (Old w) rfl (hm3.keep (Ext.old (Ext.hold he3)) (fun _ h => h)) (by simp [maxLen]; omega) (by simp; omega) ?_); intro v' w9 Fs' xs' hA; obtain ⟨F3, hr3, hf3⟩ := hA.done; have hy := hA.ext; clear hA; simp only [List.nil_append] at hr3; obtain ⟨B3, d3, rfl, -, -⟩ := hr3.sl.form; have hxx := hy.bx hBx_3 yx; have fx := fun oo => (hy.frozen yx).trans (hFx_3 oo); have yx9 := Nat.lt_of_lt_of_le yx hy.size; have xx0 := hxx 0 _ rfl; have xx1 := hxx 1 _ rfl; have xx2 := hxx 2 _ rfl; have xx3 := hxx 3 _ rfl; have xx4 := hxx 4 _ rfl; have xx5 := hxx 5 _ rfl; have xx6 := hxx 6 _ rfl; have xx7 := hxx 7 _ rfl; have xx8 := hxx 8 _ rfl; have xx9 := hxx 9 _ rfl)
  clear ym yx xm0 xx0 xm1 xx1 xm2 xx2 xm3 xx3 xm4 xx4 xm5 xx5 xm6 xx6 xm7 xx7 xm8 xx8 xm9 xx9
  have hs4 : w3.heap.size ≤ (w9.setCell ⟨w0.heap.size, 7, none⟩ (.slice B3 m.ins.length d3)).heap.size := by have := hy.size; simp; omega
  have he4 : Ext w (w9.setCell ⟨w0.heap.size, 7, none⟩ (.slice B3 m.ins.length d3)) := (he3.trans hy).setCell (by show w.heap.size ≤ w0.heap.size; omega) _
  have hBx_4 : Bx (w9.setCell ⟨w0.heap.size, 7, none⟩ (.slice B3 m.ins.length d3)) w0.heap.size [(.slice B1 m.regs.length d1), .int .i64 m.pc, (.slice B2 m.mem.length d2), .int .i64 m.save, .bool m.lets, .bool m.waits, .int .i64 m.halt, (.slice B3 m.ins.length d3), (.slice Am4 m.outs.length cm4), .int .i64 m.count] := by have := Bx.put hxx (j := 7) (by simp) (.slice B3 m.ins.length d3); simpa using this
  have hFx_4 : ∀ oo, (w9.setCell ⟨w0.heap.size, 7, none⟩ (.slice B3 m.ins.length d3)).frozen? ⟨w0.heap.size, oo, none⟩ = false := fz_set fx _ _
  have hBm_4 : Bx (w9.setCell ⟨w0.heap.size, 7, none⟩ (.slice B3 m.ins.length d3)) (w.heap.size) [(.slice Am1 m.regs.length cm1), .int .i64 m.pc, (.slice Am2 m.mem.length cm2), .int .i64 m.save, .bool m.lets, .bool m.waits, .int .i64 m.halt, (.slice Am3 m.ins.length cm3), (.slice Am4 m.outs.length cm4), .int .i64 m.count] := (hy.bx hBm_3 (by omega)).setCell (by show w0.heap.size ≠ w.heap.size; omega) _
  have hBres_4 : Bx (w9.setCell ⟨w0.heap.size, 7, none⟩ (.slice B3 m.ins.length d3)) (w.heap.size + 1) [.slice none 0 0, .int .i64 0, .slice none 0 0, .int .i64 0, .bool false, .bool false, .int .i64 0, .slice none 0 0, .slice none 0 0, .int .i64 0] := (hy.bx hBres_3 (by omega)).setCell (by show w0.heap.size ≠ w.heap.size + 1; omega) _
  have hFres_4 : ∀ oo, (w9.setCell ⟨w0.heap.size, 7, none⟩ (.slice B3 m.ins.length d3)).frozen? ⟨w.heap.size + 1, oo, none⟩ = false := fz_set (fun oo => (hy.frozen (by omega)).trans (hFres_3 oo)) _ _
  have hr1 := OwnSl.stay (w' := (w9.setCell ⟨w0.heap.size, 7, none⟩ (.slice B3 m.ins.length d3))) hr1 (fun b hb => by have q := hf1.2 b hb; have q1 := q.1; have q2 := q.2; rw [heap_set _ _ _ _ (by show w0.heap.size ≠ b; omega)]; exact hy.heap (by omega))
  have hr2 := OwnSl.stay (w' := (w9.setCell ⟨w0.heap.size, 7, none⟩ (.slice B3 m.ins.length d3))) hr2 (fun b hb => by have q := hf2.2 b hb; have q1 := q.1; have q2 := q.2; rw [heap_set _ _ _ _ (by show w0.heap.size ≠ b; omega)]; exact hy.heap (by omega))
  have hr3 := OwnSl.stay (w' := (w9.setCell ⟨w0.heap.size, 7, none⟩ (.slice B3 m.ins.length d3))) hr3 (fun b hb => by have q := hf3.2 b hb; have q1 := q.1; have q2 := q.2; rw [heap_set _ _ _ _ (by show w0.heap.size ≠ b; omega)])
  have hf3 : Fr w3 (w9.setCell ⟨w0.heap.size, 7, none⟩ (.slice B3 m.ins.length d3)) F3 := hf3.mk1 (Nat.le_refl _) (by simp)
  generalize (w9.setCell ⟨w0.heap.size, 7, none⟩ (.slice B3 m.ins.length d3)) = w4 at *
  clear hy hxx fx yx9 hBx_3 hFx_3 hBm_3 hBres_3 hFres_3
  have xm0 := hBm_4 0 _ rfl
  have xm1 := hBm_4 1 _ rfl
  have xm2 := hBm_4 2 _ rfl
  have xm3 := hBm_4 3 _ rfl
  have xm4 := hBm_4 4 _ rfl
  have xm5 := hBm_4 5 _ rfl
  have xm6 := hBm_4 6 _ rfl
  have xm7 := hBm_4 7 _ rfl
  have xm8 := hBm_4 8 _ rfl
  have xm9 := hBm_4 9 _ rfl
  have ym : w.heap.size < w4.heap.size := by omega
  have yx : w0.heap.size < w4.heap.size := by omega
  go_upto_region 6 with (at_builtin; go_must (refine wpList_append_flat (α := Int) (w0 := w4) rfl _ _ 41 rfl i0 _ 8 Try.underlying41 HI.out HZ0.out HZ1.out HZ2.out rfl (App.emptyAt w4 3 _ (by first | rfl | simp)) rfl _ m.outs (Old w) rfl (hm4.keep (Ext.old (Ext.hold he4)) (fun _ h => h)) (by simp [maxLen]; omega) (by simp; omega) ?_); intro v' w9 Fs' xs' hA; obtain ⟨F4, hr4, hf4⟩ := hA.done; have hy := hA.ext; clear hA; simp only [List.nil_append] at hr4; obtain ⟨B4, d4, rfl, -, -⟩ := hr4.sl.form; have hxx := hy.bx hBx_4 yx; have fx := fun oo => (hy.frozen yx).trans (hFx_4 oo); have yx9 := Nat.lt_of_lt_of_le yx hy.size; have xx0 := hxx 0 _ rfl; have xx1 := hxx 1 _ rfl; have xx2 := hxx 2 _ rfl; have xx3 := hxx 3 _ rfl; have xx4 := hxx 4 _ rfl; have xx5 := hxx 5 _ rfl; have xx6 := hxx 6 _ rfl; have xx7 := hxx 7 _ rfl; have xx8 := hxx 8 _ rfl; have xx9 := hxx 9 _ rfl)
  clear ym yx xm0 xx0 xm1 xx1 xm2 xx2 xm3 xx3 xm4 xx4 xm5 xx5 xm6 xx6 xm7 xx7 xm8 xx8 xm9 xx9
  have hs5 : w4.heap.size ≤ (w9.setCell ⟨w0.heap.size, 8, none⟩ (.slice B4 m.outs.length d4)).heap.size := by have := hy.size; simp; omega
  have he5 : Ext w (w9.setCell ⟨w0.heap.size, 8, none⟩ (.slice B4 m.outs.length d4)) := (he4.trans hy).setCell (by show w.heap.size ≤ w0.heap.size; omega) _
  have hBx_5 : Bx (w9.setCell ⟨w0.heap.size, 8, none⟩ (.slice B4 m.outs.length d4)) w0.heap.size [(.slice B1 m.regs.length d1), .int .i64 m.pc, (.slice B2 m.mem.length d2), .int .i64 m.save, .bool m.lets, .bool m.waits, .int .i64 m.halt, (.slice B3 m.ins.length d3), (.slice B4 m.outs.length d4), .int .i64 m.count] := by have := Bx.put hxx (j := 8) (by simp) (.slice B4 m.outs.length d4); simpa using this
  have hFx_5 : ∀ oo, (w9.setCell ⟨w0.heap.size, 8, none⟩ (.slice B4 m.outs.length d4)).frozen? ⟨w0.heap.size, oo, none⟩ = false := fz_set fx _ _
  have hBm_5 : Bx (w9.setCell ⟨w0.heap.size, 8, none⟩ (.slice B4 m.outs.length d4)) (w.heap.size) [(.slice Am1 m.regs.length cm1), .int .i64 m.pc, (.slice Am2 m.mem.length cm2), .int .i64 m.save, .bool m.lets, .bool m.waits, .int .i64 m.halt, (.slice Am3 m.ins.length cm3), (.slice Am4 m.outs.length cm4), .int .i64 m.count] := (hy.bx hBm_4 (by omega)).setCell (by show w0.heap.size ≠ w.heap.size; omega) _
  have hBres_5 : Bx (w9.setCell ⟨w0.heap.size, 8, none⟩ (.slice B4 m.outs.length d4)) (w.heap.size + 1) [.slice none 0 0, .int .i64 0, .slice none 0 0, .int .i64 0, .bool false, .bool false, .int .i64 0, .slice none 0 0, .slice none 0 0, .int .i64 0] := (hy.bx hBres_4 (by omega)).setCell (by show w0.heap.size ≠ w.heap.size + 1; omega) _
  have hFres_5 : ∀ oo, (w9.setCell ⟨w0.heap.size, 8, none⟩ (.slice B4 m.outs.length d4)).frozen? ⟨w.heap.size + 1, oo, none⟩ = false := fz_set (fun oo => (hy.frozen (by omega)).trans (hFres_4 oo)) _ _
  have hr1 := OwnSl.stay (w' := (w9.setCell ⟨w0.heap.size, 8, none⟩ (.slice B4 m.outs.length d4))) hr1 (fun b hb => by have q := hf1.2 b hb; have q1 := q.1; have q2 := q.2; rw [heap_set _ _ _ _ (by show w0.heap.size ≠ b; omega)]; exact hy.heap (by omega))
  have hr2 := OwnSl.stay (w' := (w9.setCell ⟨w0.heap.size, 8, none⟩ (.slice B4 m.outs.length d4))) hr2 (fun b hb => by have q := hf2.2 b hb; have q1 := q.1; have q2 := q.2; rw [heap_set _ _ _ _ (by show w0.heap.size ≠ b; omega)]; exact hy.heap (by omega))
  have hr3 := OwnSl.stay (w' := (w9.setCell ⟨w0.heap.size, 8, none⟩ (.slice B4 m.outs.length d4))) hr3 (fun b hb => by have q := hf3.2 b hb; have q1 := q.1; have q2 := q.2; rw [heap_set _ _ _ _ (by show w0.heap.size ≠ b; omega)]; exact hy.heap (by omega))
  have hr4 := OwnSl.stay (w' := (w9.setCell ⟨w0.heap.size, 8, none⟩ (.slice B4 m.outs.length d4))) hr4 (fun b hb => by have q := hf4.2 b hb; have q1 := q.1; have q2 := q.2; rw [heap_set _ _ _ _ (by show w0.heap.size ≠ b; omega)])
  have hf4 : Fr w4 (w9.setCell ⟨w0.heap.size, 8, none⟩ (.slice B4 m.outs.length d4)) F4 := hf4.mk1 (Nat.le_refl _) (by simp)
  generalize (w9.setCell ⟨w0.heap.size, 8, none⟩ (.slice B4 m.outs.length d4)) = w5 at *
  clear hy hxx fx yx9 hBx_4 hFx_4 hBm_4 hBres_4 hFres_4
  have xx0 := hBx_5 0 _ rfl
  have xres0 := hBres_5 0 _ rfl
  have xx1 := hBx_5 1 _ rfl
  have xres1 := hBres_5 1 _ rfl
  have xx2 := hBx_5 2 _ rfl
  have xres2 := hBres_5 2 _ rfl
  have xx3 := hBx_5 3 _ rfl
  have xres3 := hBres_5 3 _ rfl
  have xx4 := hBx_5 4 _ rfl
  have xres4 := hBres_5 4 _ rfl
  have xx5 := hBx_5 5 _ rfl
  have xres5 := hBres_5 5 _ rfl
  have xx6 := hBx_5 6 _ rfl
  have xres6 := hBres_5 6 _ rfl
  have xx7 := hBx_5 7 _ rfl
  have xres7 := hBres_5 7 _ rfl
  have xx8 := hBx_5 8 _ rfl
  have xres8 := hBres_5 8 _ rfl
  have xx9 := hBx_5 9 _ rfl
  have xres9 := hBres_5 9 _ rfl
  have yx : w0.heap.size < w5.heap.size := by omega
  have yres : w.heap.size + 1 < w5.heap.size := by omega
  have fres := hFres_5
  go_wp2
  refine bodyPost_ret (v := .agg #[(.slice B1 m.regs.length d1), .int .i64 m.pc, (.slice B2 m.mem.length d2), .int .i64 m.save, .bool m.lets, .bool m.waits, .int .i64 m.halt, (.slice B3 m.ins.length d3), (.slice B4 m.outs.length d4), .int .i64 m.count]) (by simp [results, Try.results55, go_sem, xres0, xres1, xres2, xres3, xres4, xres5, xres6, xres7, xres8, xres9, yres]) rfl ⟨_, _, _, _, F1, F2, F3, F4, rfl, ?_, ?_, ?_, ?_, ?_, ?_⟩
  · exact OwnSl.stay hr1 (fun b hb => by
      have q := hf1.2 b hb; have q1 := q.1; have q2 := q.2
      repeat (first | rw [heap_set _ _ _ _ (by simp; omega)]))
  · exact OwnSl.stay hr2 (fun b hb => by
      have q := hf2.2 b hb; have q1 := q.1; have q2 := q.2
      repeat (first | rw [heap_set _ _ _ _ (by simp; omega)]))
  · exact OwnSl.stay hr3 (fun b hb => by
      have q := hf3.2 b hb; have q1 := q.1; have q2 := q.2
      repeat (first | rw [heap_set _ _ _ _ (by simp; omega)]))
  · exact OwnSl.stay hr4 (fun b hb => by
      have q := hf4.2 b hb; have q1 := q.1; have q2 := q.2
      repeat (first | rw [heap_set _ _ _ _ (by simp; omega)]))
  · exact Fr.mk2 (Fr.mk2 (w := w1) (w' := w4) (Fr.mk2 (w := w1) (w' := w3) hf1 hf2 (by first | omega | (simp; done) | (simp; omega)) (by first | omega | (simp; done) | (simp; omega)) (by first | omega | (simp; done) | (simp; omega)) (by first | omega | (simp; done) | (simp; omega)) (by first | omega | (simp; done) | (simp; omega))) hf3 (by first | omega | (simp; done) | (simp; omega)) (by first | omega | (simp; done) | (simp; omega)) (by first | omega | (simp; done) | (simp; omega)) (by first | omega | (simp; done) | (simp; omega)) (by first | omega | (simp; done) | (simp; omega))) hf4 (by first | omega | (simp; done) | (simp; omega)) (by first | omega | (simp; done) | (simp; omega)) (by first | omega | (simp; done) | (simp; omega)) (by first | omega | (simp; done) | (simp; omega)) (by first | omega | (simp; done) | (simp; omega))
  · exact Ext.hold he5

set_option maxHeartbeats 16000000 in
theorem l3CopyF_any (m : MchMach) (vm1 vm2 vm3 vm4 : Value) (w : World) (hm1 : Sl w (Old w) vm1 m.regs) (hm2 : Sl w (Old w) vm2 m.mem) (hm3 : Sl w (Old w) vm3 m.ins) (hm4 : Sl w (Old w) vm4 m.outs) (hn1 : m.regs.length ≤ 4194304) (hn2 : m.mem.length ≤ 4194304) (hn3 : m.ins.length ≤ 4194304) (hn4 : m.outs.length ≤ 4194304) :
    Calls Try.prog 55 #[.agg #[vm1, .int .i64 m.pc, vm2, .int .i64 m.save, .bool m.lets, .bool m.waits, .int .i64 m.halt, vm3, vm4, .int .i64 m.count]] w fun e w' => ∃ (r1 r2 r3 r4 : Value) (F1 F2 F3 : List Nat) (Fs : List (List Nat)) (xs : List Value), e = .returned (.agg #[r1, .int .i64 m.pc, r2, .int .i64 m.save, .bool m.lets, .bool m.waits, .int .i64 m.halt, r3, r4, .int .i64 m.count]) ∧ OwnSl w' r1 m.regs F1 ∧ OwnSl w' r2 m.mem F2 ∧ OwnSl w' r3 m.ins F3 ∧ App w w' 3 r4 m.outs Fs xs ∧ Fs.flatten = [] ∧ Fr w w' (F1 ++ F2 ++ F3) ∧ (∀ q, r4.ownBlock = some q → q ∉ F1 ++ F2 ++ F3) ∧ Cap 3 w' r1 ∧ (∀ q, r1.ownBlock = some q → w.heap.size ≤ q) ∧ Ext w w' := by
  obtain ⟨Am1, cm1, rfl, hlm1, hmm1⟩ := hm1.form
  obtain ⟨Am2, cm2, rfl, hlm2, hmm2⟩ := hm2.form
  obtain ⟨Am3, cm3, rfl, hlm3, hmm3⟩ := hm3.form
  obtain ⟨Am4, cm4, rfl, hlm4, hmm4⟩ := hm4.form
  obtain ⟨i0, hi, hz0, hz1, hz2⟩ := info_parts infInt
  have HI := hide hi
  have HZ0 := hide hz0
  have HZ1 := hide hz1
  have HZ2 := hide hz2
  clear hi hz0 hz1 hz2
  go_enter Try.func55, Try.ntmps55
  go_upto_region 1 with fail
  have he0 : Ext w ((w.alloc (Obj.cells #[(.slice Am1 m.regs.length cm1), .int .i64 m.pc, (.slice Am2 m.mem.length cm2), .int .i64 m.save, .bool m.lets, .bool m.waits, .int .i64 m.halt, (.slice Am3 m.ins.length cm3), (.slice Am4 m.outs.length cm4), .int .i64 m.count] 46)).alloc (Obj.cells #[.slice none 0 0, .int .i64 0, .slice none 0 0, .int .i64 0, .bool false, .bool false, .int .i64 0, .slice none 0 0, .slice none 0 0, .int .i64 0] 46)) := (Ext.auto)
  have hs0 : w.heap.size + 2 ≤ (((w.alloc (Obj.cells #[(.slice Am1 m.regs.length cm1), .int .i64 m.pc, (.slice Am2 m.mem.length cm2), .int .i64 m.save, .bool m.lets, .bool m.waits, .int .i64 m.halt, (.slice Am3 m.ins.length cm3), (.slice Am4 m.outs.length cm4), .int .i64 m.count] 46)).alloc (Obj.cells #[.slice none 0 0, .int .i64 0, .slice none 0 0, .int .i64 0, .bool false, .bool false, .int .i64 0, .slice none 0 0, .slice none 0 0, .int .i64 0] 46))).heap.size := by simp
  have hq0 := hide (show (((w.alloc (Obj.cells #[(.slice Am1 m.regs.length cm1), .int .i64 m.pc, (.slice Am2 m.mem.length cm2), .int .i64 m.save, .bool m.lets, .bool m.waits, .int .i64 m.halt, (.slice Am3 m.ins.length cm3), (.slice Am4 m.outs.length cm4), .int .i64 m.count] 46)).alloc (Obj.cells #[.slice none 0 0, .int .i64 0, .slice none 0 0, .int .i64 0, .bool false, .bool false, .int .i64 0, .slice none 0 0, .slice none 0 0, .int .i64 0] 46))).heap.size = w.heap.size + 2 by simp)
  have hBm_0 : Bx ((w.alloc (Obj.cells #[(.slice Am1 m.regs.length cm1), .int .i64 m.pc, (.slice Am2 m.mem.length cm2), .int .i64 m.save, .bool m.lets, .bool m.waits, .int .i64 m.halt, (.slice Am3 m.ins.length cm3), (.slice Am4 m.outs.length cm4), .int .i64 m.count] 46)).alloc (Obj.cells #[.slice none 0 0, .int .i64 0, .slice none 0 0, .int .i64 0, .bool false, .bool false, .int .i64 0, .slice none 0 0, .slice none 0 0, .int .i64 0] 46)) (w.heap.size) [(.slice Am1 m.regs.length cm1), .int .i64 m.pc, (.slice Am2 m.mem.length cm2), .int .i64 m.save, .bool m.lets, .bool m.waits, .int .i64 m.halt, (.slice Am3 m.ins.length cm3), (.slice Am4 m.outs.length cm4), .int .i64 m.count] := (by have := (Bx.alloc (Bx.new w #[(.slice Am1 m.regs.length cm1), .int .i64 m.pc, (.slice Am2 m.mem.length cm2), .int .i64 m.save, .bool m.lets, .bool m.waits, .int .i64 m.halt, (.slice Am3 m.ins.length cm3), (.slice Am4 m.outs.length cm4), .int .i64 m.count] 46) (by simp) #[.slice none 0 0, .int .i64 0, .slice none 0 0, .int .i64 0, .bool false, .bool false, .int .i64 0, .slice none 0 0, .slice none 0 0, .int .i64 0] 46); simpa using this)
  have hFm_0 : ∀ oo, (((w.alloc (Obj.cells #[(.slice Am1 m.regs.length cm1), .int .i64 m.pc, (.slice Am2 m.mem.length cm2), .int .i64 m.save, .bool m.lets, .bool m.waits, .int .i64 m.halt, (.slice Am3 m.ins.length cm3), (.slice Am4 m.outs.length cm4), .int .i64 m.count] 46)).alloc (Obj.cells #[.slice none 0 0, .int .i64 0, .slice none 0 0, .int .i64 0, .bool false, .bool false, .int .i64 0, .slice none 0 0, .slice none 0 0, .int .i64 0] 46))).frozen? ⟨w.heap.size, oo, none⟩ = false := fun oo => by simp
  have hBres_0 : Bx ((w.alloc (Obj.cells #[(.slice Am1 m.regs.length cm1), .int .i64 m.pc, (.slice Am2 m.mem.length cm2), .int .i64 m.save, .bool m.lets, .bool m.waits, .int .i64 m.halt, (.slice Am3 m.ins.length cm3), (.slice Am4 m.outs.length cm4), .int .i64 m.count] 46)).alloc (Obj.cells #[.slice none 0 0, .int .i64 0, .slice none 0 0, .int .i64 0, .bool false, .bool false, .int .i64 0, .slice none 0 0, .slice none 0 0, .int .i64 0] 46)) (w.heap.size + 1) [.slice none 0 0, .int .i64 0, .slice none 0 0, .int .i64 0, .bool false, .bool false, .int .i64 0, .slice none 0 0, .slice none 0 0, .int .i64 0] := (by have := (Bx.new (w.alloc (Obj.cells #[(.slice Am1 m.regs.length cm1), .int .i64 m.pc, (.slice Am2 m.mem.length cm2), .int .i64 m.save, .bool m.lets, .bool m.waits, .int .i64 m.halt, (.slice Am3 m.ins.length cm3), (.slice Am4 m.outs.length cm4), .int .i64 m.count] 46)) #[.slice none 0 0, .int .i64 0, .slice none 0 0, .int .i64 0, .bool false, .bool false, .int .i64 0, .slice none 0 0, .slice none 0 0, .int .i64 0] 46); simpa using this)
  have hFres_0 : ∀ oo, (((w.alloc (Obj.cells #[(.slice Am1 m.regs.length cm1), .int .i64 m.pc, (.slice Am2 m.mem.length cm2), .int .i64 m.save, .bool m.lets, .bool m.waits, .int .i64 m.halt, (.slice Am3 m.ins.length cm3), (.slice Am4 m.outs.length cm4), .int .i64 m.count] 46)).alloc (Obj.cells #[.slice none 0 0, .int .i64 0, .slice none 0 0, .int .i64 0, .bool false, .bool false, .int .i64 0, .slice none 0 0, .slice none 0 0, .int .i64 0] 46))).frozen? ⟨w.heap.size + 1, oo, none⟩ = false := fun oo => by simp
  generalize ((w.alloc (Obj.cells #[(.slice Am1 m.regs.length cm1), .int .i64 m.pc, (.slice Am2 m.mem.length cm2), .int .i64 m.save, .bool m.lets, .bool m.waits, .int .i64 m.halt, (.slice Am3 m.ins.length cm3), (.slice Am4 m.outs.length cm4), .int .i64 m.count] 46)).alloc (Obj.cells #[.slice none 0 0, .int .i64 0, .slice none 0 0, .int .i64 0, .bool false, .bool false, .int .i64 0, .slice none 0 0, .slice none 0 0, .int .i64 0] 46)) = w0 at *
  have ym : w.heap.size < w0.heap.size := by omega
  have xm0 := hBm_0 0 _ rfl
  have xm1 := hBm_0 1 _ rfl
  have xm2 := hBm_0 2 _ rfl
  have xm3 := hBm_0 3 _ rfl
  have xm4 := hBm_0 4 _ rfl
  have xm5 := hBm_0 5 _ rfl
  have xm6 := hBm_0 6 _ rfl
  have xm7 := hBm_0 7 _ rfl
  have xm8 := hBm_0 8 _ rfl
  have xm9 := hBm_0 9 _ rfl
  go_upto_region 2 with fail
  clear xm0 xm1 xm2 xm3 xm4 xm5 xm6 xm7 xm8 xm9 ym
  have he1 : Ext w (w0.alloc (.cells #[(.slice Am1 m.regs.length cm1), .int .i64 m.pc, (.slice Am2 m.mem.length cm2), .int .i64 m.save, .bool m.lets, .bool m.waits, .int .i64 m.halt, (.slice Am3 m.ins.length cm3), (.slice Am4 m.outs.length cm4), .int .i64 m.count] 46)) := Ext.hold he0
  have hx1 : Ext w0 (w0.alloc (.cells #[(.slice Am1 m.regs.length cm1), .int .i64 m.pc, (.slice Am2 m.mem.length cm2), .int .i64 m.save, .bool m.lets, .bool m.waits, .int .i64 m.halt, (.slice Am3 m.ins.length cm3), (.slice Am4 m.outs.length cm4), .int .i64 m.count] 46)) := Ext.auto
  have hs1 : w0.heap.size + 1 = (w0.alloc (.cells #[(.slice Am1 m.regs.length cm1), .int .i64 m.pc, (.slice Am2 m.mem.length cm2), .int .i64 m.save, .bool m.lets, .bool m.waits, .int .i64 m.halt, (.slice Am3 m.ins.length cm3), (.slice Am4 m.outs.length cm4), .int .i64 m.count] 46)).heap.size := by simp
  have hBx_1 : Bx (w0.alloc (.cells #[(.slice Am1 m.regs.length cm1), .int .i64 m.pc, (.slice Am2 m.mem.length cm2), .int .i64 m.save, .bool m.lets, .bool m.waits, .int .i64 m.halt, (.slice Am3 m.ins.length cm3), (.slice Am4 m.outs.length cm4), .int .i64 m.count] 46)) w0.heap.size [(.slice Am1 m.regs.length cm1), .int .i64 m.pc, (.slice Am2 m.mem.length cm2), .int .i64 m.save, .bool m.lets, .bool m.waits, .int .i64 m.halt, (.slice Am3 m.ins.length cm3), (.slice Am4 m.outs.length cm4), .int .i64 m.count] := Bx.new w0 #[(.slice Am1 m.regs.length cm1), .int .i64 m.pc, (.slice Am2 m.mem.length cm2), .int .i64 m.save, .bool m.lets, .bool m.waits, .int .i64 m.halt, (.slice Am3 m.ins.length cm3), (.slice Am4 m.outs.length cm4), .int .i64 m.count] 46
  have hFx_1 : ∀ oo, (w0.alloc (.cells #[(.slice Am1 m.regs.length cm1), .int .i64 m.pc, (.slice Am2 m.mem.length cm2), .int .i64 m.save, .bool m.lets, .bool m.waits, .int .i64 m.halt, (.slice Am3 m.ins.length cm3), (.slice Am4 m.outs.length cm4), .int .i64 m.count] 46)).frozen? ⟨w0.heap.size, oo, none⟩ = false := fz_new w0 #[(.slice Am1 m.regs.length cm1), .int .i64 m.pc, (.slice Am2 m.mem.length cm2), .int .i64 m.save, .bool m.lets, .bool m.waits, .int .i64 m.halt, (.slice Am3 m.ins.length cm3), (.slice Am4 m.outs.length cm4), .int .i64 m.count] 46 rfl
  have hBm_1 : Bx (w0.alloc (.cells #[(.slice Am1 m.regs.length cm1), .int .i64 m.pc, (.slice Am2 m.mem.length cm2), .int .i64 m.save, .bool m.lets, .bool m.waits, .int .i64 m.halt, (.slice Am3 m.ins.length cm3), (.slice Am4 m.outs.length cm4), .int .i64 m.count] 46)) (w.heap.size) [(.slice Am1 m.regs.length cm1), .int .i64 m.pc, (.slice Am2 m.mem.length cm2), .int .i64 m.save, .bool m.lets, .bool m.waits, .int .i64 m.halt, (.slice Am3 m.ins.length cm3), (.slice Am4 m.outs.length cm4), .int .i64 m.count] := Bx.hold hBm_0
  have hBres_1 : Bx (w0.alloc (.cells #[(.slice Am1 m.regs.length cm1), .int .i64 m.pc, (.slice Am2 m.mem.length cm2), .int .i64 m.save, .bool m.lets, .bool m.waits, .int .i64 m.halt, (.slice Am3 m.ins.length cm3), (.slice Am4 m.outs.length cm4), .int .i64 m.count] 46)) (w.heap.size + 1) [.slice none 0 0, .int .i64 0, .slice none 0 0, .int .i64 0, .bool false, .bool false, .int .i64 0, .slice none 0 0, .slice none 0 0, .int .i64 0] := Bx.hold hBres_0
  have hFres_1 : ∀ oo, (w0.alloc (.cells #[(.slice Am1 m.regs.length cm1), .int .i64 m.pc, (.slice Am2 m.mem.length cm2), .int .i64 m.save, .bool m.lets, .bool m.waits, .int .i64 m.halt, (.slice Am3 m.ins.length cm3), (.slice Am4 m.outs.length cm4), .int .i64 m.count] 46)).frozen? ⟨w.heap.size + 1, oo, none⟩ = false := fz_hold hFres_0
  generalize (w0.alloc (.cells #[(.slice Am1 m.regs.length cm1), .int .i64 m.pc, (.slice Am2 m.mem.length cm2), .int .i64 m.save, .bool m.lets, .bool m.waits, .int .i64 m.halt, (.slice Am3 m.ins.length cm3), (.slice Am4 m.outs.length cm4), .int .i64 m.count] 46)) = w1 at *
  clear hBm_0 hBres_0 hFm_0 hFres_0
  have xm0 := hBm_1 0 _ rfl
  have xm1 := hBm_1 1 _ rfl
  have xm2 := hBm_1 2 _ rfl
  have xm3 := hBm_1 3 _ rfl
  have xm4 := hBm_1 4 _ rfl
  have xm5 := hBm_1 5 _ rfl
  have xm6 := hBm_1 6 _ rfl
  have xm7 := hBm_1 7 _ rfl
  have xm8 := hBm_1 8 _ rfl
  have xm9 := hBm_1 9 _ rfl
  have ym : w.heap.size < w1.heap.size := by omega
  have yx : w0.heap.size < w1.heap.size := by omega
  go_upto_region 3 with (at_builtin; go_must (refine wpList_append_flat (α := Int) (w0 := w1) rfl _ _ 41 rfl i0 _ 8 Try.underlying41 HI.out HZ0.out HZ1.out HZ2.out rfl (App.emptyAt w1 3 _ (by first | rfl | simp)) rfl _ m.regs (Old w) rfl (hm1.keep (Ext.old (Ext.hold he1)) (fun _ h => h)) (by simp [maxLen]; omega) (by simp; omega) ?_); intro v' w9 Fs' xs' hA; have hCp := Cap.of_app hA; have hLo := hA.row.lt; obtain ⟨F1, hr1, hf1⟩ := hA.done; have hy := hA.ext; clear hA; simp only [List.nil_append] at hr1; obtain ⟨B1, d1, rfl, -, -⟩ := hr1.sl.form; have hxx := hy.bx hBx_1 yx; have fx := fun oo => (hy.frozen yx).trans (hFx_1 oo); have yx9 := Nat.lt_of_lt_of_le yx hy.size; have xx0 := hxx 0 _ rfl; have xx1 := hxx 1 _ rfl; have xx2 := hxx 2 _ rfl; have xx3 := hxx 3 _ rfl; have xx4 := hxx 4 _ rfl; have xx5 := hxx 5 _ rfl; have xx6 := hxx 6 _ rfl; have xx7 := hxx 7 _ rfl; have xx8 := hxx 8 _ rfl; have xx9 := hxx 9 _ rfl)
  clear ym yx xm0 xx0 xm1 xx1 xm2 xx2 xm3 xx3 xm4 xx4 xm5 xx5 xm6 xx6 xm7 xx7 xm8 xx8 xm9 xx9
  have hs2 : w1.heap.size ≤ (w9.setCell ⟨w0.heap.size, 0, none⟩ (.slice B1 m.regs.length d1)).heap.size := by have := hy.size; simp; omega
  have he2 : Ext w (w9.setCell ⟨w0.heap.size, 0, none⟩ (.slice B1 m.regs.length d1)) := (he1.trans hy).setCell (by show w.heap.size ≤ w0.heap.size; omega) _
  have hBx_2 : Bx (w9.setCell ⟨w0.heap.size, 0, none⟩ (.slice B1 m.regs.length d1)) w0.heap.size [(.slice B1 m.regs.length d1), .int .i64 m.pc, (.slice Am2 m.mem.length cm2), .int .i64 m.save, .bool m.lets, .bool m.waits, .int .i64 m.halt, (.slice Am3 m.ins.length cm3), (.slice Am4 m.outs.length cm4), .int .i64 m.count] := by have := Bx.put hxx (j := 0) (by simp) (.slice B1 m.regs.length d1); simpa using this
  have hFx_2 : ∀ oo, (w9.setCell ⟨w0.heap.size, 0, none⟩ (.slice B1 m.regs.length d1)).frozen? ⟨w0.heap.size, oo, none⟩ = false := fz_set fx _ _
  have hBm_2 : Bx (w9.setCell ⟨w0.heap.size, 0, none⟩ (.slice B1 m.regs.length d1)) (w.heap.size) [(.slice Am1 m.regs.length cm1), .int .i64 m.pc, (.slice Am2 m.mem.length cm2), .int .i64 m.save, .bool m.lets, .bool m.waits, .int .i64 m.halt, (.slice Am3 m.ins.length cm3), (.slice Am4 m.outs.length cm4), .int .i64 m.count] := (hy.bx hBm_1 (by omega)).setCell (by show w0.heap.size ≠ w.heap.size; omega) _
  have hBres_2 : Bx (w9.setCell ⟨w0.heap.size, 0, none⟩ (.slice B1 m.regs.length d1)) (w.heap.size + 1) [.slice none 0 0, .int .i64 0, .slice none 0 0, .int .i64 0, .bool false, .bool false, .int .i64 0, .slice none 0 0, .slice none 0 0, .int .i64 0] := (hy.bx hBres_1 (by omega)).setCell (by show w0.heap.size ≠ w.heap.size + 1; omega) _
  have hFres_2 : ∀ oo, (w9.setCell ⟨w0.heap.size, 0, none⟩ (.slice B1 m.regs.length d1)).frozen? ⟨w.heap.size + 1, oo, none⟩ = false := fz_set (fun oo => (hy.frozen (by omega)).trans (hFres_1 oo)) _ _
  have hCp := (hCp).set (p := ⟨w0.heap.size, 0, none⟩) (.slice B1 m.regs.length d1)
  have hr1 := OwnSl.stay (w' := (w9.setCell ⟨w0.heap.size, 0, none⟩ (.slice B1 m.regs.length d1))) hr1 (fun b hb => by have q := hf1.2 b hb; have q1 := q.1; have q2 := q.2; rw [heap_set _ _ _ _ (by show w0.heap.size ≠ b; omega)])
  have hf1 : Fr w1 (w9.setCell ⟨w0.heap.size, 0, none⟩ (.slice B1 m.regs.length d1)) F1 := hf1.mk1 (Nat.le_refl _) (by simp)
  generalize (w9.setCell ⟨w0.heap.size, 0, none⟩ (.slice B1 m.regs.length d1)) = w2 at *
  clear hy hxx fx yx9 hBx_1 hFx_1 hBm_1 hBres_1 hFres_1
  have xm0 := hBm_2 0 _ rfl
  have xm1 := hBm_2 1 _ rfl
  have xm2 := hBm_2 2 _ rfl
  have xm3 := hBm_2 3 _ rfl
  have xm4 := hBm_2 4 _ rfl
  have xm5 := hBm_2 5 _ rfl
  have xm6 := hBm_2 6 _ rfl
  have xm7 := hBm_2 7 _ rfl
  have xm8 := hBm_2 8 _ rfl
  have xm9 := hBm_2 9 _ rfl
  have ym : w.heap.size < w2.heap.size := by omega
  have yx : w0.heap.size < w2.heap.size := by omega
  go_upto_region 4 with (at_builtin; go_must (refine wpList_append_flat (α := Int) (w0 := w2) rfl _ _ 41 rfl i0 _ 8 Try.underlying41 HI.out HZ0.out HZ1.out HZ2.out rfl (App.emptyAt w2 3 _ (by first | rfl | simp)) rfl _ m.mem (Old w) rfl (hm2.keep (Ext.old (Ext.hold he2)) (fun _ h => h)) (by simp [maxLen]; omega) (by simp; omega) ?_); intro v' w9 Fs' xs' hA; obtain ⟨F2, hr2, hf2⟩ := hA.done; have hy := hA.ext; clear hA; simp only [List.nil_append] at hr2; obtain ⟨B2, d2, rfl, -, -⟩ := hr2.sl.form; have hxx := hy.bx hBx_2 yx; have fx := fun oo => (hy.frozen yx).trans (hFx_2 oo); have yx9 := Nat.lt_of_lt_of_le yx hy.size; have xx0 := hxx 0 _ rfl; have xx1 := hxx 1 _ rfl; have xx2 := hxx 2 _ rfl; have xx3 := hxx 3 _ rfl; have xx4 := hxx 4 _ rfl; have xx5 := hxx 5 _ rfl; have xx6 := hxx 6 _ rfl; have xx7 := hxx 7 _ rfl; have xx8 := hxx 8 _ rfl; have xx9 := hxx 9 _ rfl)
  clear ym yx xm0 xx0 xm1 xx1 xm2 xx2 xm3 xx3 xm4 xx4 xm5 xx5 xm6 xx6 xm7 xx7 xm8 xx8 xm9 xx9
  have hs3 : w2.heap.size ≤ (w9.setCell ⟨w0.heap.size, 2, none⟩ (.slice B2 m.mem.length d2)).heap.size := by have := hy.size; simp; omega
  have he3 : Ext w (w9.setCell ⟨w0.heap.size, 2, none⟩ (.slice B2 m.mem.length d2)) := (he2.trans hy).setCell (by show w.heap.size ≤ w0.heap.size; omega) _
  have hBx_3 : Bx (w9.setCell ⟨w0.heap.size, 2, none⟩ (.slice B2 m.mem.length d2)) w0.heap.size [(.slice B1 m.regs.length d1), .int .i64 m.pc, (.slice B2 m.mem.length d2), .int .i64 m.save, .bool m.lets, .bool m.waits, .int .i64 m.halt, (.slice Am3 m.ins.length cm3), (.slice Am4 m.outs.length cm4), .int .i64 m.count] := by have := Bx.put hxx (j := 2) (by simp) (.slice B2 m.mem.length d2); simpa using this
  have hFx_3 : ∀ oo, (w9.setCell ⟨w0.heap.size, 2, none⟩ (.slice B2 m.mem.length d2)).frozen? ⟨w0.heap.size, oo, none⟩ = false := fz_set fx _ _
  have hBm_3 : Bx (w9.setCell ⟨w0.heap.size, 2, none⟩ (.slice B2 m.mem.length d2)) (w.heap.size) [(.slice Am1 m.regs.length cm1), .int .i64 m.pc, (.slice Am2 m.mem.length cm2), .int .i64 m.save, .bool m.lets, .bool m.waits, .int .i64 m.halt, (.slice Am3 m.ins.length cm3), (.slice Am4 m.outs.length cm4), .int .i64 m.count] := (hy.bx hBm_2 (by omega)).setCell (by show w0.heap.size ≠ w.heap.size; omega) _
  have hBres_3 : Bx (w9.setCell ⟨w0.heap.size, 2, none⟩ (.slice B2 m.mem.length d2)) (w.heap.size + 1) [.slice none 0 0, .int .i64 0, .slice none 0 0, .int .i64 0, .bool false, .bool false, .int .i64 0, .slice none 0 0, .slice none 0 0, .int .i64 0] := (hy.bx hBres_2 (by omega)).setCell (by show w0.heap.size ≠ w.heap.size + 1; omega) _
  have hFres_3 : ∀ oo, (w9.setCell ⟨w0.heap.size, 2, none⟩ (.slice B2 m.mem.length d2)).frozen? ⟨w.heap.size + 1, oo, none⟩ = false := fz_set (fun oo => (hy.frozen (by omega)).trans (hFres_2 oo)) _ _
  have hCp := (hCp.ext hy).set (p := ⟨w0.heap.size, 2, none⟩) (.slice B2 m.mem.length d2)
  have hr1 := OwnSl.stay (w' := (w9.setCell ⟨w0.heap.size, 2, none⟩ (.slice B2 m.mem.length d2))) hr1 (fun b hb => by have q := hf1.2 b hb; have q1 := q.1; have q2 := q.2; rw [heap_set _ _ _ _ (by show w0.heap.size ≠ b; omega)]; exact hy.heap (by omega))
  have hr2 := OwnSl.stay (w' := (w9.setCell ⟨w0.heap.size, 2, none⟩ (.slice B2 m.mem.length d2))) hr2 (fun b hb => by have q := hf2.2 b hb; have q1 := q.1; have q2 := q.2; rw [heap_set _ _ _ _ (by show w0.heap.size ≠ b; omega)])
  have hf2 : Fr w2 (w9.setCell ⟨w0.heap.size, 2, none⟩ (.slice B2 m.mem.length d2)) F2 := hf2.mk1 (Nat.le_refl _) (by simp)
  generalize (w9.setCell ⟨w0.heap.size, 2, none⟩ (.slice B2 m.mem.length d2)) = w3 at *
  clear hy hxx fx yx9 hBx_2 hFx_2 hBm_2 hBres_2 hFres_2
  have xm0 := hBm_3 0 _ rfl
  have xm1 := hBm_3 1 _ rfl
  have xm2 := hBm_3 2 _ rfl
  have xm3 := hBm_3 3 _ rfl
  have xm4 := hBm_3 4 _ rfl
  have xm5 := hBm_3 5 _ rfl
  have xm6 := hBm_3 6 _ rfl
  have xm7 := hBm_3 7 _ rfl
  have xm8 := hBm_3 8 _ rfl
  have xm9 := hBm_3 9 _ rfl
  have ym : w.heap.size < w3.heap.size := by omega
  have yx : w0.heap.size < w3.heap.size := by omega
  go_upto_region 5 with (at_builtin; go_must (refine wpList_append_flat (α := Int) (w0 := w3) rfl _ _ 41 rfl i0 _ 8 Try.underlying41 HI.out HZ0.out HZ1.out HZ2.out rfl (App.emptyAt w3 3 _ (by first | rfl | simp)) rfl _ m.ins (Old w) rfl (hm3.keep (Ext.old (Ext.hold he3)) (fun _ h => h)) (by simp [maxLen]; omega) (by simp; omega) ?_); intro v' w9 Fs' xs' hA; obtain ⟨F3, hr3, hf3⟩ := hA.done; have hy := hA.ext; clear hA; simp only [List.nil_append] at hr3; obtain ⟨B3, d3, rfl, -, -⟩ := hr3.sl.form; have hxx := hy.bx hBx_3 yx; have fx := fun oo => (hy.frozen yx).trans (hFx_3 oo); have yx9 := Nat.lt_of_lt_of_le yx hy.size; have xx0 := hxx 0 _ rfl; have xx1 := hxx 1 _ rfl; have xx2 := hxx 2 _ rfl; have xx3 := hxx 3 _ rfl; have xx4 := hxx 4 _ rfl; have xx5 := hxx 5 _ rfl; have xx6 := hxx 6 _ rfl; have xx7 := hxx 7 _ rfl; have xx8 := hxx 8 _ rfl; have xx9 := hxx 9 _ rfl)
  clear ym yx xm0 xx0 xm1 xx1 xm2 xx2 xm3 xx3 xm4 xx4 xm5 xx5 xm6 xx6 xm7 xx7 xm8 xx8 xm9 xx9
  have hs4 : w3.heap.size ≤ (w9.setCell ⟨w0.heap.size, 7, none⟩ (.slice B3 m.ins.length d3)).heap.size := by have := hy.size; simp; omega
  have he4 : Ext w (w9.setCell ⟨w0.heap.size, 7, none⟩ (.slice B3 m.ins.length d3)) := (he3.trans hy).setCell (by show w.heap.size ≤ w0.heap.size; omega) _
  have hBx_4 : Bx (w9.setCell ⟨w0.heap.size, 7, none⟩ (.slice B3 m.ins.length d3)) w0.heap.size [(.slice B1 m.regs.length d1), .int .i64 m.pc, (.slice B2 m.mem.length d2), .int .i64 m.save, .bool m.lets, .bool m.waits, .int .i64 m.halt, (.slice B3 m.ins.length d3), (.slice Am4 m.outs.length cm4), .int .i64 m.count] := by have := Bx.put hxx (j := 7) (by simp) (.slice B3 m.ins.length d3); simpa using this
  have hFx_4 : ∀ oo, (w9.setCell ⟨w0.heap.size, 7, none⟩ (.slice B3 m.ins.length d3)).frozen? ⟨w0.heap.size, oo, none⟩ = false := fz_set fx _ _
  have hBm_4 : Bx (w9.setCell ⟨w0.heap.size, 7, none⟩ (.slice B3 m.ins.length d3)) (w.heap.size) [(.slice Am1 m.regs.length cm1), .int .i64 m.pc, (.slice Am2 m.mem.length cm2), .int .i64 m.save, .bool m.lets, .bool m.waits, .int .i64 m.halt, (.slice Am3 m.ins.length cm3), (.slice Am4 m.outs.length cm4), .int .i64 m.count] := (hy.bx hBm_3 (by omega)).setCell (by show w0.heap.size ≠ w.heap.size; omega) _
  have hBres_4 : Bx (w9.setCell ⟨w0.heap.size, 7, none⟩ (.slice B3 m.ins.length d3)) (w.heap.size + 1) [.slice none 0 0, .int .i64 0, .slice none 0 0, .int .i64 0, .bool false, .bool false, .int .i64 0, .slice none 0 0, .slice none 0 0, .int .i64 0] := (hy.bx hBres_3 (by omega)).setCell (by show w0.heap.size ≠ w.heap.size + 1; omega) _
  have hFres_4 : ∀ oo, (w9.setCell ⟨w0.heap.size, 7, none⟩ (.slice B3 m.ins.length d3)).frozen? ⟨w.heap.size + 1, oo, none⟩ = false := fz_set (fun oo => (hy.frozen (by omega)).trans (hFres_3 oo)) _ _
  have hCp := (hCp.ext hy).set (p := ⟨w0.heap.size, 7, none⟩) (.slice B3 m.ins.length d3)
  have hr1 := OwnSl.stay (w' := (w9.setCell ⟨w0.heap.size, 7, none⟩ (.slice B3 m.ins.length d3))) hr1 (fun b hb => by have q := hf1.2 b hb; have q1 := q.1; have q2 := q.2; rw [heap_set _ _ _ _ (by show w0.heap.size ≠ b; omega)]; exact hy.heap (by omega))
  have hr2 := OwnSl.stay (w' := (w9.setCell ⟨w0.heap.size, 7, none⟩ (.slice B3 m.ins.length d3))) hr2 (fun b hb => by have q := hf2.2 b hb; have q1 := q.1; have q2 := q.2; rw [heap_set _ _ _ _ (by show w0.heap.size ≠ b; omega)]; exact hy.heap (by omega))
  have hr3 := OwnSl.stay (w' := (w9.setCell ⟨w0.heap.size, 7, none⟩ (.slice B3 m.ins.length d3))) hr3 (fun b hb => by have q := hf3.2 b hb; have q1 := q.1; have q2 := q.2; rw [heap_set _ _ _ _ (by show w0.heap.size ≠ b; omega)])
  have hf3 : Fr w3 (w9.setCell ⟨w0.heap.size, 7, none⟩ (.slice B3 m.ins.length d3)) F3 := hf3.mk1 (Nat.le_refl _) (by simp)
  generalize (w9.setCell ⟨w0.heap.size, 7, none⟩ (.slice B3 m.ins.length d3)) = w4 at *
  clear hy hxx fx yx9 hBx_3 hFx_3 hBm_3 hBres_3 hFres_3
  have xm0 := hBm_4 0 _ rfl
  have xm1 := hBm_4 1 _ rfl
  have xm2 := hBm_4 2 _ rfl
  have xm3 := hBm_4 3 _ rfl
  have xm4 := hBm_4 4 _ rfl
  have xm5 := hBm_4 5 _ rfl
  have xm6 := hBm_4 6 _ rfl
  have xm7 := hBm_4 7 _ rfl
  have xm8 := hBm_4 8 _ rfl
  have xm9 := hBm_4 9 _ rfl
  have ym : w.heap.size < w4.heap.size := by omega
  have yx : w0.heap.size < w4.heap.size := by omega
  go_upto_region 6 with (at_builtin; go_must (refine wpList_append_flat (α := Int) (w0 := w4) rfl _ _ 41 rfl i0 _ 8 Try.underlying41 HI.out HZ0.out HZ1.out HZ2.out rfl (App.emptyAt w4 3 _ (by first | rfl | simp)) rfl _ m.outs (Old w) rfl (hm4.keep (Ext.old (Ext.hold he4)) (fun _ h => h)) (by simp [maxLen]; omega) (by simp; omega) ?_); intro v' w9 Fs' xs' hA; have hA4 := hA.row.lt; have hB0 := (hA.down he4).flat; have hy := hA.ext; obtain ⟨F9, hO9, hF9⟩ := hA.done; simp only [List.nil_append] at hB0 hO9; obtain ⟨B4, d4, rfl, -, -⟩ := hO9.sl.form; clear hA hO9 hF9; have hxx := hy.bx hBx_4 yx; have fx := fun oo => (hy.frozen yx).trans (hFx_4 oo); have yx9 := Nat.lt_of_lt_of_le yx hy.size; have xx0 := hxx 0 _ rfl; have xx1 := hxx 1 _ rfl; have xx2 := hxx 2 _ rfl; have xx3 := hxx 3 _ rfl; have xx4 := hxx 4 _ rfl; have xx5 := hxx 5 _ rfl; have xx6 := hxx 6 _ rfl; have xx7 := hxx 7 _ rfl; have xx8 := hxx 8 _ rfl; have xx9 := hxx 9 _ rfl)
  clear ym yx xm0 xx0 xm1 xx1 xm2 xx2 xm3 xx3 xm4 xx4 xm5 xx5 xm6 xx6 xm7 xx7 xm8 xx8 xm9 xx9
  have hs5 : w4.heap.size ≤ (w9.setCell ⟨w0.heap.size, 8, none⟩ (.slice B4 m.outs.length d4)).heap.size := by have := hy.size; simp; omega
  have he5 : Ext w (w9.setCell ⟨w0.heap.size, 8, none⟩ (.slice B4 m.outs.length d4)) := (he4.trans hy).setCell (by show w.heap.size ≤ w0.heap.size; omega) _
  have hBx_5 : Bx (w9.setCell ⟨w0.heap.size, 8, none⟩ (.slice B4 m.outs.length d4)) w0.heap.size [(.slice B1 m.regs.length d1), .int .i64 m.pc, (.slice B2 m.mem.length d2), .int .i64 m.save, .bool m.lets, .bool m.waits, .int .i64 m.halt, (.slice B3 m.ins.length d3), (.slice B4 m.outs.length d4), .int .i64 m.count] := by have := Bx.put hxx (j := 8) (by simp) (.slice B4 m.outs.length d4); simpa using this
  have hFx_5 : ∀ oo, (w9.setCell ⟨w0.heap.size, 8, none⟩ (.slice B4 m.outs.length d4)).frozen? ⟨w0.heap.size, oo, none⟩ = false := fz_set fx _ _
  have hBm_5 : Bx (w9.setCell ⟨w0.heap.size, 8, none⟩ (.slice B4 m.outs.length d4)) (w.heap.size) [(.slice Am1 m.regs.length cm1), .int .i64 m.pc, (.slice Am2 m.mem.length cm2), .int .i64 m.save, .bool m.lets, .bool m.waits, .int .i64 m.halt, (.slice Am3 m.ins.length cm3), (.slice Am4 m.outs.length cm4), .int .i64 m.count] := (hy.bx hBm_4 (by omega)).setCell (by show w0.heap.size ≠ w.heap.size; omega) _
  have hBres_5 : Bx (w9.setCell ⟨w0.heap.size, 8, none⟩ (.slice B4 m.outs.length d4)) (w.heap.size + 1) [.slice none 0 0, .int .i64 0, .slice none 0 0, .int .i64 0, .bool false, .bool false, .int .i64 0, .slice none 0 0, .slice none 0 0, .int .i64 0] := (hy.bx hBres_4 (by omega)).setCell (by show w0.heap.size ≠ w.heap.size + 1; omega) _
  have hFres_5 : ∀ oo, (w9.setCell ⟨w0.heap.size, 8, none⟩ (.slice B4 m.outs.length d4)).frozen? ⟨w.heap.size + 1, oo, none⟩ = false := fz_set (fun oo => (hy.frozen (by omega)).trans (hFres_4 oo)) _ _
  have hCp := (hCp.ext hy).set (p := ⟨w0.heap.size, 8, none⟩) (.slice B4 m.outs.length d4)
  have hr1 := OwnSl.stay (w' := (w9.setCell ⟨w0.heap.size, 8, none⟩ (.slice B4 m.outs.length d4))) hr1 (fun b hb => by have q := hf1.2 b hb; have q1 := q.1; have q2 := q.2; rw [heap_set _ _ _ _ (by show w0.heap.size ≠ b; omega)]; exact hy.heap (by omega))
  have hr2 := OwnSl.stay (w' := (w9.setCell ⟨w0.heap.size, 8, none⟩ (.slice B4 m.outs.length d4))) hr2 (fun b hb => by have q := hf2.2 b hb; have q1 := q.1; have q2 := q.2; rw [heap_set _ _ _ _ (by show w0.heap.size ≠ b; omega)]; exact hy.heap (by omega))
  have hr3 := OwnSl.stay (w' := (w9.setCell ⟨w0.heap.size, 8, none⟩ (.slice B4 m.outs.length d4))) hr3 (fun b hb => by have q := hf3.2 b hb; have q1 := q.1; have q2 := q.2; rw [heap_set _ _ _ _ (by show w0.heap.size ≠ b; omega)]; exact hy.heap (by omega))
  have hB0 := hB0.set (p := ⟨w0.heap.size, 8, none⟩) (.slice B4 m.outs.length d4) (fun q => by have := (hA4 _ q).1; (try simp at this); omega) (by simp) (by show w.heap.size ≤ w0.heap.size; omega)
  generalize (w9.setCell ⟨w0.heap.size, 8, none⟩ (.slice B4 m.outs.length d4)) = w5 at *
  clear hy hxx fx yx9 hBx_4 hFx_4 hBm_4 hBres_4 hFres_4
  have xx0 := hBx_5 0 _ rfl
  have xres0 := hBres_5 0 _ rfl
  have xx1 := hBx_5 1 _ rfl
  have xres1 := hBres_5 1 _ rfl
  have xx2 := hBx_5 2 _ rfl
  have xres2 := hBres_5 2 _ rfl
  have xx3 := hBx_5 3 _ rfl
  have xres3 := hBres_5 3 _ rfl
  have xx4 := hBx_5 4 _ rfl
  have xres4 := hBres_5 4 _ rfl
  have xx5 := hBx_5 5 _ rfl
  have xres5 := hBres_5 5 _ rfl
  have xx6 := hBx_5 6 _ rfl
  have xres6 := hBres_5 6 _ rfl
  have xx7 := hBx_5 7 _ rfl
  have xres7 := hBres_5 7 _ rfl
  have xx8 := hBx_5 8 _ rfl
  have xres8 := hBres_5 8 _ rfl
  have xx9 := hBx_5 9 _ rfl
  have xres9 := hBres_5 9 _ rfl
  have yx : w0.heap.size < w5.heap.size := by omega
  have yres : w.heap.size + 1 < w5.heap.size := by omega
  have fres := hFres_5
  go_wp2
  refine bodyPost_ret (v := .agg #[(.slice B1 m.regs.length d1), .int .i64 m.pc, (.slice B2 m.mem.length d2), .int .i64 m.save, .bool m.lets, .bool m.waits, .int .i64 m.halt, (.slice B3 m.ins.length d3), (.slice B4 m.outs.length d4), .int .i64 m.count]) (by simp [results, Try.results55, go_sem, xres0, xres1, xres2, xres3, xres4, xres5, xres6, xres7, xres8, xres9, yres]) rfl ⟨_, _, _, _, F1, F2, F3, List.replicate m.outs.length [], xs', rfl, ?_, ?_, ?_, ?_, ?_, ?_, ?_, ?_, ?_, ?_⟩
  · exact OwnSl.stay hr1 (fun b hb => by
      have q := hf1.2 b hb; have q1 := q.1; have q2 := q.2
      repeat (first | rw [heap_set _ _ _ _ (by simp; omega)]))
  · exact OwnSl.stay hr2 (fun b hb => by
      have q := hf2.2 b hb; have q1 := q.1; have q2 := q.2
      repeat (first | rw [heap_set _ _ _ _ (by simp; omega)]))
  · exact OwnSl.stay hr3 (fun b hb => by
      have q := hf3.2 b hb; have q1 := q.1; have q2 := q.2
      repeat (first | rw [heap_set _ _ _ _ (by simp; omega)]))
  · repeat (refine App.set ?_ _ (fun q => by have := (hA4 _ q).1; (try simp at this); omega) (by simp) (by first | omega | (simp; done) | (simp; omega)))
    exact hB0
  · simp
  · exact Fr.mk2 (Fr.mk2 (w := w1) (w' := w3) hf1 hf2 (by first | omega | (simp; done) | (simp; omega)) (by first | omega | (simp; done) | (simp; omega)) (by first | omega | (simp; done) | (simp; omega)) (by first | omega | (simp; done) | (simp; omega)) (by first | omega | (simp; done) | (simp; omega))) hf3 (by first | omega | (simp; done) | (simp; omega)) (by first | omega | (simp; done) | (simp; omega)) (by first | omega | (simp; done) | (simp; omega)) (by first | omega | (simp; done) | (simp; omega)) (by first | omega | (simp; done) | (simp; omega))
  · intro q hq hm
    have h4 := (hA4 q hq).1
    rcases List.mem_append.1 hm with hm | hm
    · rcases List.mem_append.1 hm with hm | hm
      · have := (hf1.2 q hm).2; omega
      · have := (hf2.2 q hm).2; omega
    · have := (hf3.2 q hm).2; omega
  · repeat (refine Cap.set ?_ _ _)
    exact hCp
  · exact fun q hq => by have := (hLo q hq).1; (try simp at this); omega
  · exact Ext.hold he5

theorem l3CopyC_any (m : MchMach) (vm1 vm2 vm3 vm4 : Value) (w : World) (hm1 : Sl w (Old w) vm1 m.regs) (hm2 : Sl w (Old w) vm2 m.mem) (hm3 : Sl w (Old w) vm3 m.ins) (hm4 : Sl w (Old w) vm4 m.outs) (hn1 : m.regs.length ≤ 4194304) (hn2 : m.mem.length ≤ 4194304) (hn3 : m.ins.length ≤ 4194304) (hn4 : m.outs.length ≤ 4194304) :
    Calls Try.prog 55 #[.agg #[vm1, .int .i64 m.pc, vm2, .int .i64 m.save, .bool m.lets, .bool m.waits, .int .i64 m.halt, vm3, vm4, .int .i64 m.count]] w fun e w' => ∃ (r1 r2 r3 r4 : Value), e = .returned (.agg #[r1, .int .i64 m.pc, r2, .int .i64 m.save, .bool m.lets, .bool m.waits, .int .i64 m.halt, r3, r4, .int .i64 m.count]) ∧ Own4C 3 [] w.heap.size w' r1 r2 r3 r4 m ∧ Ext w w' :=
  (l3CopyF_any m vm1 vm2 vm3 vm4 w hm1 hm2 hm3 hm4 hn1 hn2 hn3 hn4).mono fun e w' ⟨r1, r2, r3, r4, F1, F2, F3, Fs, xs, he, h1, h2, h3, hA, hfl, hF, ha, hC, hL, hE⟩ => by
    obtain ⟨F4, hO, hF4⟩ := hA.done4
    have hlt : ∀ q, r1.ownBlock = some q → q < w'.heap.size := fun q hq => by
      cases hr : r1 with
      | slice A n c =>
        cases A with
        | none => rw [hr] at hq; simp [Value.ownBlock] at hq
        | some a =>
          obtain ⟨g, cur, e1, hh, -⟩ := hC a n c hr
          rw [hr, e1] at hq
          simp [Value.ownBlock] at hq
          subst hq
          exact (Array.getElem?_eq_some_iff.1 hh).1
      | _ => rw [hr] at hq; simp [Value.ownBlock] at hq
    refine ⟨r1, r2, r3, r4, he, ⟨F1, F2, F3, F4, h1, h2, h3, hO, ?_, ?_, hC, Cap.of_app hA, fun q hq => ⟨hL q hq, hlt q hq, by simp⟩, fun q hq => ⟨(hA.row.lt q hq).1, (hA.row.lt q hq).2, by simp, ha q hq⟩⟩, hE⟩
    · rcases hF4 with rfl | ⟨q, hq, rfl⟩
      · simpa using hF.1
      · refine List.nodup_append.2 ⟨hF.1, by simp, fun x hx y hy => ?_⟩
        simp at hy
        subst hy
        exact fun e => ha y hq (e ▸ hx)
    · intro b hb
      refine ⟨?_, ?_, by simp⟩
      all_goals
        rcases List.mem_append.1 hb with hb | hb
        · first | exact (hF.2 b hb).1 | exact (hF.2 b hb).2
        · rcases hF4 with rfl | ⟨q, hq, rfl⟩
          · simp at hb
          · simp at hb
            subst hb
            first | exact (hA.row.lt b hq).1 | exact (hA.row.lt b hq).2

end Go.Proofs.Yteaacelfnkiboaa
