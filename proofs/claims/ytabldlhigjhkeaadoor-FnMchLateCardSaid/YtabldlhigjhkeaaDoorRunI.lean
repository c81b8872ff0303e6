/-
  A run of a machine: the program.
-/
import Derived.Test.YtabldlhigjhkeaaDoorStepI
import Derived.Test.YtabldlhigjhkeaaDoorRunS
import Derived.Deep.DeepCutAuto
namespace Go.Proofs.YtabldlhigjhkeaaDoor
open Go.RowKit

set_option linter.unusedVariables false
set_option linter.unusedSimpArgs false
set_option maxRecDepth 100000

theorem mRun_next {m y : MchMach} {irqs : List Int} {n r : Int} (h : mRun m irqs n = mIter irqs r.toNat y) (hr : 0 < r) (hg : mGoes y = true) : mRun m irqs n = mIter irqs (r - 1).toNat (mAct y (hasI irqs y.count)) := by
  rw [h, show r.toNat = (r - 1).toNat + 1 by omega, mIter_goes hg]
theorem mRun_end {m y : MchMach} {irqs : List Int} {n r : Int} (h : mRun m irqs n = mIter irqs r.toNat y) (hr : ¬ 0 < r) : mRun m irqs n = y := by
  rw [h, show r.toNat = 0 by omega]; rfl
theorem mRun_halt {m y : MchMach} {irqs : List Int} {n r : Int} (h : mRun m irqs n = mIter irqs r.toNat y) (hg : mGoes y = false) : mRun m irqs n = y := by
  rw [h, mIter_stays hg]

theorem indexInt_any (l : List Int) (n : Int) (v : Value) (w : World) (h : Sl w (Old w) v l) :
    Calls Tryd.prog 73 #[v, .int .i64 n] w fun e w' => (∃ i : Int, e = .returned (.int .i64 i) ∧ decide (0 ≤ i) = hasI l n) ∧ w = w' := by
  obtain ⟨A, c, rfl, hl, hm⟩ := h.form
  unfold maxLen at hm
  go_enter Tryd.func73, Tryd.ntmps73
  go_wp2
  go_loop [5, 8] (fun _ i => ∃ k : Nat, k ≤ l.length ∧ i = .int .i64 k ∧ Hid (∀ a, a ∈ l.take k → a ≠ n)) (fun _ i => l.length - (intOf i).toNat)
  case atStart => exact ⟨0, by omega, rfl, by intro a ha; simp at ha⟩
  case round =>
    obtain ⟨k, hk, rfl, HN⟩ := hrel
    by_cases hlt : k < l.length
    · obtain ⟨b, off, rfl, hbo, hk0, e0⟩ := at_Int h hlt
      have z0 : (0 : Int) ≤ (k : Int) := by omega
      have z1 : (k : Int) < (l.length : Int) := by omega
      cases hq : (l[k] == n)
      · have HT := hide (has_next hlt HN.out hq)
        have hq' : (n == l[k]) = false := by rw [← hq]; exact Bool.beq_comm
        clear hq
        go_wp2
        go_round
        case rel => exact ⟨k + 1, by omega, by go_num, HT.out⟩
        case measure => (simp [intOf]; try omega)
      · have HF := hide (has_yes hlt hq)
        have hq' : (n == l[k]) = true := by rw [← hq]; exact Bool.beq_comm
        clear hq
        go_wp2
        go_ret
        exact ⟨⟨_, rfl, by rw [HF.out]; simp⟩, rfl⟩
    · obtain rfl : k = l.length := by omega
      have HF := hide (has_no HN.out)
      go_wp2
      go_ret
      exact ⟨⟨_, rfl, by rw [HF.out]; rfl⟩, rfl⟩

theorem containsInt_any (l : List Int) (n : Int) (v : Value) (w : World) (h : Sl w (Old w) v l) :
    Calls Tryd.prog 50 #[v, .int .i64 n] w fun e w' => e = .returned (.bool (hasI l n)) ∧ w = w' := by
  obtain ⟨A, c, rfl, hl, hm⟩ := h.form
  go_enter Tryd.func50, Tryd.ntmps50
  go_wp2_with fail
  refine (indexInt_any l n _ _ h).mono ?_
  rintro e w' ⟨⟨i, rfl, hi⟩, rfl⟩
  have HI := hide hi
  clear hi
  go_wp2
  go_ret
  exact ⟨by rw [← HI.out]; rfl, rfl⟩

set_option maxHeartbeats 64000000 in
theorem implMchRun_p (m : MchMach) (irqs : List Int) (n : Int) (vm1 vm2 vm3 vm4 virqs : Value) (w : World) (hm1 : Sl w (Old w) vm1 m.regs) (hm2 : Sl w (Old w) vm2 m.mem) (hm3 : Sl w (Old w) vm3 m.ins) (hm4 : Sl w (Old w) vm4 m.outs) (hirqs : Sl w (Old w) virqs irqs) (hn1 : m.regs.length ≤ 4194304) (hn2 : m.mem.length ≤ 4194304) (hn3 : m.ins.length ≤ 4194304) (hn4 : m.outs.length ≤ 4194304) (hn5 : m.outs.length ≤ 4190000) (lf : Nat) (hF : Forms lf w) :
    Calls Tryd.prog 25 #[.agg #[vm1, .int .i64 m.pc, vm2, .int .i64 m.save, .bool m.lets, .bool m.waits, .int .i64 m.halt, vm3, vm4, .int .i64 m.count], virqs, .int .i64 n] w fun e w' => RunPost w (mRun m irqs n) e w' := by
  obtain ⟨Am1, cm1, rfl, hlm1, hmm1⟩ := hm1.form
  obtain ⟨Am2, cm2, rfl, hlm2, hmm2⟩ := hm2.form
  obtain ⟨Am3, cm3, rfl, hlm3, hmm3⟩ := hm3.form
  obtain ⟨Am4, cm4, rfl, hlm4, hmm4⟩ := hm4.form
  obtain ⟨Airqs, cirqs, rfl, hlirqs, hmirqs⟩ := hirqs.form
  cases q0 : mchOkB m
  · 
    have HV := hide (mRun_no (irqs := irqs) (n := n) q0)
    go_enter Tryd.func25, Tryd.ntmps25
    go_upto_region 1 with fail
    have he0 : Ext w ((w.alloc (Obj.cells #[(.slice Am1 m.regs.length cm1), .int .i64 m.pc, (.slice Am2 m.mem.length cm2), .int .i64 m.save, .bool m.lets, .bool m.waits, .int .i64 m.halt, (.slice Am3 m.ins.length cm3), (.slice Am4 m.outs.length cm4), .int .i64 m.count] 26)).alloc (Obj.cells #[.slice none 0 0, .int .i64 0, .slice none 0 0, .int .i64 0, .bool false, .bool false, .int .i64 0, .slice none 0 0, .slice none 0 0, .int .i64 0] 26)) := (Ext.auto)
    have hs0 : w.heap.size + 2 ≤ (((w.alloc (Obj.cells #[(.slice Am1 m.regs.length cm1), .int .i64 m.pc, (.slice Am2 m.mem.length cm2), .int .i64 m.save, .bool m.lets, .bool m.waits, .int .i64 m.halt, (.slice Am3 m.ins.length cm3), (.slice Am4 m.outs.length cm4), .int .i64 m.count] 26)).alloc (Obj.cells #[.slice none 0 0, .int .i64 0, .slice none 0 0, .int .i64 0, .bool false, .bool false, .int .i64 0, .slice none 0 0, .slice none 0 0, .int .i64 0] 26))).heap.size := by simp
    have hq0 := hide (show (((w.alloc (Obj.cells #[(.slice Am1 m.regs.length cm1), .int .i64 m.pc, (.slice Am2 m.mem.length cm2), .int .i64 m.save, .bool m.lets, .bool m.waits, .int .i64 m.halt, (.slice Am3 m.ins.length cm3), (.slice Am4 m.outs.length cm4), .int .i64 m.count] 26)).alloc (Obj.cells #[.slice none 0 0, .int .i64 0, .slice none 0 0, .int .i64 0, .bool false, .bool false, .int .i64 0, .slice none 0 0, .slice none 0 0, .int .i64 0] 26))).heap.size = w.heap.size + 2 by simp)
    have hBm_0 : Bx ((w.alloc (Obj.cells #[(.slice Am1 m.regs.length cm1), .int .i64 m.pc, (.slice Am2 m.mem.length cm2), .int .i64 m.save, .bool m.lets, .bool m.waits, .int .i64 m.halt, (.slice Am3 m.ins.length cm3), (.slice Am4 m.outs.length cm4), .int .i64 m.count] 26)).alloc (Obj.cells #[.slice none 0 0, .int .i64 0, .slice none 0 0, .int .i64 0, .bool false, .bool false, .int .i64 0, .slice none 0 0, .slice none 0 0, .int .i64 0] 26)) (w.heap.size) [(.slice Am1 m.regs.length cm1), .int .i64 m.pc, (.slice Am2 m.mem.length cm2), .int .i64 m.save, .bool m.lets, .bool m.waits, .int .i64 m.halt, (.slice Am3 m.ins.length cm3), (.slice Am4 m.outs.length cm4), .int .i64 m.count] := (by have := (Bx.alloc (Bx.new w #[(.slice Am1 m.regs.length cm1), .int .i64 m.pc, (.slice Am2 m.mem.length cm2), .int .i64 m.save, .bool m.lets, .bool m.waits, .int .i64 m.halt, (.slice Am3 m.ins.length cm3), (.slice Am4 m.outs.length cm4), .int .i64 m.count] 26) (by simp) #[.slice none 0 0, .int .i64 0, .slice none 0 0, .int .i64 0, .bool false, .bool false, .int .i64 0, .slice none 0 0, .slice none 0 0, .int .i64 0] 26); simpa using this)
    have hFm_0 : ∀ oo, (((w.alloc (Obj.cells #[(.slice Am1 m.regs.length cm1), .int .i64 m.pc, (.slice Am2 m.mem.length cm2), .int .i64 m.save, .bool m.lets, .bool m.waits, .int .i64 m.halt, (.slice Am3 m.ins.length cm3), (.slice Am4 m.outs.length cm4), .int .i64 m.count] 26)).alloc (Obj.cells #[.slice none 0 0, .int .i64 0, .slice none 0 0, .int .i64 0, .bool false, .bool false, .int .i64 0, .slice none 0 0, .slice none 0 0, .int .i64 0] 26))).frozen? ⟨w.heap.size, oo, none⟩ = false := fun oo => by simp
    have hBres_0 : Bx ((w.alloc (Obj.cells #[(.slice Am1 m.regs.length cm1), .int .i64 m.pc, (.slice Am2 m.mem.length cm2), .int .i64 m.save, .bool m.lets, .bool m.waits, .int .i64 m.halt, (.slice Am3 m.ins.length cm3), (.slice Am4 m.outs.length cm4), .int .i64 m.count] 26)).alloc (Obj.cells #[.slice none 0 0, .int .i64 0, .slice none 0 0, .int .i64 0, .bool false, .bool false, .int .i64 0, .slice none 0 0, .slice none 0 0, .int .i64 0] 26)) (w.heap.size + 1) [.slice none 0 0, .int .i64 0, .slice none 0 0, .int .i64 0, .bool false, .bool false, .int .i64 0, .slice none 0 0, .slice none 0 0, .int .i64 0] := (by have := (Bx.new (w.alloc (Obj.cells #[(.slice Am1 m.regs.length cm1), .int .i64 m.pc, (.slice Am2 m.mem.length cm2), .int .i64 m.save, .bool m.lets, .bool m.waits, .int .i64 m.halt, (.slice Am3 m.ins.length cm3), (.slice Am4 m.outs.length cm4), .int .i64 m.count] 26)) #[.slice none 0 0, .int .i64 0, .slice none 0 0, .int .i64 0, .bool false, .bool false, .int .i64 0, .slice none 0 0, .slice none 0 0, .int .i64 0] 26); simpa using this)
    have hFres_0 : ∀ oo, (((w.alloc (Obj.cells #[(.slice Am1 m.regs.length cm1), .int .i64 m.pc, (.slice Am2 m.mem.length cm2), .int .i64 m.save, .bool m.lets, .bool m.waits, .int .i64 m.halt, (.slice Am3 m.ins.length cm3), (.slice Am4 m.outs.length cm4), .int .i64 m.count] 26)).alloc (Obj.cells #[.slice none 0 0, .int .i64 0, .slice none 0 0, .int .i64 0, .bool false, .bool false, .int .i64 0, .slice none 0 0, .slice none 0 0, .int .i64 0] 26))).frozen? ⟨w.heap.size + 1, oo, none⟩ = false := fun oo => by simp
    generalize ((w.alloc (Obj.cells #[(.slice Am1 m.regs.length cm1), .int .i64 m.pc, (.slice Am2 m.mem.length cm2), .int .i64 m.save, .bool m.lets, .bool m.waits, .int .i64 m.halt, (.slice Am3 m.ins.length cm3), (.slice Am4 m.outs.length cm4), .int .i64 m.count] 26)).alloc (Obj.cells #[.slice none 0 0, .int .i64 0, .slice none 0 0, .int .i64 0, .bool false, .bool false, .int .i64 0, .slice none 0 0, .slice none 0 0, .int .i64 0] 26)) = w0 at *
    have ym : w.heap.size < w0.heap.size := by omega
    have xm0 := hBm_0 0 _ rfl
    have xm1 := hBm_0 1 _ rfl
    have xm2 := hBm_0 2 _ rfl
    have xm3 := hBm_0 3 _ rfl
    have xm4 := hBm_0 4 _ rfl
    have xm5 := hBm_0 5 _ rfl
    have xm6 := hBm_0 6 _ rfl
    have xm7 := hBm_0 7 _ rfl
    have xm8 := hBm_0 8 _ rfl
    have xm9 := hBm_0 9 _ rfl
    have fm := hFm_0
    have yres : w.heap.size + 1 < w0.heap.size := by omega
    have xres0 := hBres_0 0 _ rfl
    have xres1 := hBres_0 1 _ rfl
    have xres2 := hBres_0 2 _ rfl
    have xres3 := hBres_0 3 _ rfl
    have xres4 := hBres_0 4 _ rfl
    have xres5 := hBres_0 5 _ rfl
    have xres6 := hBres_0 6 _ rfl
    have xres7 := hBres_0 7 _ rfl
    have xres8 := hBres_0 8 _ rfl
    have xres9 := hBres_0 9 _ rfl
    have fres := hFres_0
    go_wp2_with fail
    refine (implMchOk_any m _ _ _ _ _ (hm1.ext he0) (hm2.ext he0) (hm3.ext he0) (hm4.ext he0)).mono ?_
    rintro e w1 ⟨rfl, hy⟩
    simp only [q0]
    clear xm0 xm1 xm2 xm3 xm4 xm5 xm6 xm7 xm8 xm9 ym
    clear fm
    clear xres0 xres1 xres2 xres3 xres4 xres5 xres6 xres7 xres8 xres9 yres
    clear fres
    have hs1 := hy.size
    try simp at hs1
    have he1 : Ext w w1 := Ext.trans (Ext.hold he0) hy
    have hBm_1 : Bx w1 (w.heap.size) [(.slice Am1 m.regs.length cm1), .int .i64 m.pc, (.slice Am2 m.mem.length cm2), .int .i64 m.save, .bool m.lets, .bool m.waits, .int .i64 m.halt, (.slice Am3 m.ins.length cm3), (.slice Am4 m.outs.length cm4), .int .i64 m.count] := hy.bx (Bx.hold hBm_0) (by first | omega | (simp; done) | (simp; omega))
    have hFm_1 : ∀ oo, w1.frozen? ⟨w.heap.size, oo, none⟩ = false := fun oo => (hy.frozen (by first | omega | (simp; done) | (simp; omega))).trans ((fz_hold hFm_0) oo)
    have hBres_1 : Bx w1 (w.heap.size + 1) [.slice none 0 0, .int .i64 0, .slice none 0 0, .int .i64 0, .bool false, .bool false, .int .i64 0, .slice none 0 0, .slice none 0 0, .int .i64 0] := hy.bx (Bx.hold hBres_0) (by first | omega | (simp; done) | (simp; omega))
    have hFres_1 : ∀ oo, w1.frozen? ⟨w.heap.size + 1, oo, none⟩ = false := fun oo => (hy.frozen (by first | omega | (simp; done) | (simp; omega))).trans ((fz_hold hFres_0) oo)
    try clear hBm_0 hFm_0 hBres_0 hFres_0
    clear hy
    have yres : w.heap.size + 1 < w1.heap.size := by omega
    have xres0 := hBres_1 0 _ rfl
    have xres1 := hBres_1 1 _ rfl
    have xres2 := hBres_1 2 _ rfl
    have xres3 := hBres_1 3 _ rfl
    have xres4 := hBres_1 4 _ rfl
    have xres5 := hBres_1 5 _ rfl
    have xres6 := hBres_1 6 _ rfl
    have xres7 := hBres_1 7 _ rfl
    have xres8 := hBres_1 8 _ rfl
    have xres9 := hBres_1 9 _ rfl
    have fres := hFres_1
    go_wp2
    refine bodyPost_ret (v := .agg #[.slice none 0 0, .int .i64 0, .slice none 0 0, .int .i64 0, .bool false, .bool false, .int .i64 0, .slice none 0 0, .slice none 0 0, .int .i64 0]) (by simp [results, Tryd.results25, go_sem, xres0, xres1, xres2, xres3, xres4, xres5, xres6, xres7, xres8, xres9]) rfl ?_
    unfold RunPost
    rw [HV.out]
    exact ⟨.slice none 0 0, .slice none 0 0, .slice none 0 0, .slice none 0 0, [], [], [], [], rfl, OwnSl.nil _, OwnSl.nil _, OwnSl.nil _, OwnSl.nil _, Fr.nil _ _, Ext.hold he1⟩
  by_cases hn4c : 400 < n
  · 
    have HV := hide (mRun_long (m := m) (irqs := irqs) hn4c)
    have q1 : decide (400 < n) = true := decide_eq_true hn4c
    go_enter Tryd.func25, Tryd.ntmps25
    go_upto_region 1 with fail
    have he0 : Ext w ((w.alloc (Obj.cells #[(.slice Am1 m.regs.length cm1), .int .i64 m.pc, (.slice Am2 m.mem.length cm2), .int .i64 m.save, .bool m.lets, .bool m.waits, .int .i64 m.halt, (.slice Am3 m.ins.length cm3), (.slice Am4 m.outs.length cm4), .int .i64 m.count] 26)).alloc (Obj.cells #[.slice none 0 0, .int .i64 0, .slice none 0 0, .int .i64 0, .bool false, .bool false, .int .i64 0, .slice none 0 0, .slice none 0 0, .int .i64 0] 26)) := (Ext.auto)
    have hs0 : w.heap.size + 2 ≤ (((w.alloc (Obj.cells #[(.slice Am1 m.regs.length cm1), .int .i64 m.pc, (.slice Am2 m.mem.length cm2), .int .i64 m.save, .bool m.lets, .bool m.waits, .int .i64 m.halt, (.slice Am3 m.ins.length cm3), (.slice Am4 m.outs.length cm4), .int .i64 m.count] 26)).alloc (Obj.cells #[.slice none 0 0, .int .i64 0, .slice none 0 0, .int .i64 0, .bool false, .bool false, .int .i64 0, .slice none 0 0, .slice none 0 0, .int .i64 0] 26))).heap.size := by simp
    have hq0 := hide (show (((w.alloc (Obj.cells #[(.slice Am1 m.regs.length cm1), .int .i64 m.pc, (.slice Am2 m.mem.length cm2), .int .i64 m.save, .bool m.lets, .bool m.waits, .int .i64 m.halt, (.slice Am3 m.ins.length cm3), (.slice Am4 m.outs.length cm4), .int .i64 m.count] 26)).alloc (Obj.cells #[.slice none 0 0, .int .i64 0, .slice none 0 0, .int .i64 0, .bool false, .bool false, .int .i64 0, .slice none 0 0, .slice none 0 0, .int .i64 0] 26))).heap.size = w.heap.size + 2 by simp)
    have hBm_0 : Bx ((w.alloc (Obj.cells #[(.slice Am1 m.regs.length cm1), .int .i64 m.pc, (.slice Am2 m.mem.length cm2), .int .i64 m.save, .bool m.lets, .bool m.waits, .int .i64 m.halt, (.slice Am3 m.ins.length cm3), (.slice Am4 m.outs.length cm4), .int .i64 m.count] 26)).alloc (Obj.cells #[.slice none 0 0, .int .i64 0, .slice none 0 0, .int .i64 0, .bool false, .bool false, .int .i64 0, .slice none 0 0, .slice none 0 0, .int .i64 0] 26)) (w.heap.size) [(.slice Am1 m.regs.length cm1), .int .i64 m.pc, (.slice Am2 m.mem.length cm2), .int .i64 m.save, .bool m.lets, .bool m.waits, .int .i64 m.halt, (.slice Am3 m.ins.length cm3), (.slice Am4 m.outs.length cm4), .int .i64 m.count] := (by have := (Bx.alloc (Bx.new w #[(.slice Am1 m.regs.length cm1), .int .i64 m.pc, (.slice Am2 m.mem.length cm2), .int .i64 m.save, .bool m.lets, .bool m.waits, .int .i64 m.halt, (.slice Am3 m.ins.length cm3), (.slice Am4 m.outs.length cm4), .int .i64 m.count] 26) (by simp) #[.slice none 0 0, .int .i64 0, .slice none 0 0, .int .i64 0, .bool false, .bool false, .int .i64 0, .slice none 0 0, .slice none 0 0, .int .i64 0] 26); simpa using this)
    have hFm_0 : ∀ oo, (((w.alloc (Obj.cells #[(.slice Am1 m.regs.length cm1), .int .i64 m.pc, (.slice Am2 m.mem.length cm2), .int .i64 m.save, .bool m.lets, .bool m.waits, .int .i64 m.halt, (.slice Am3 m.ins.length cm3), (.slice Am4 m.outs.length cm4), .int .i64 m.count] 26)).alloc (Obj.cells #[.slice none 0 0, .int .i64 0, .slice none 0 0, .int .i64 0, .bool false, .bool false, .int .i64 0, .slice none 0 0, .slice none 0 0, .int .i64 0] 26))).frozen? ⟨w.heap.size, oo, none⟩ = false := fun oo => by simp
    have hBres_0 : Bx ((w.alloc (Obj.cells #[(.slice Am1 m.regs.length cm1), .int .i64 m.pc, (.slice Am2 m.mem.length cm2), .int .i64 m.save, .bool m.lets, .bool m.waits, .int .i64 m.halt, (.slice Am3 m.ins.length cm3), (.slice Am4 m.outs.length cm4), .int .i64 m.count] 26)).alloc (Obj.cells #[.slice none 0 0, .int .i64 0, .slice none 0 0, .int .i64 0, .bool false, .bool false, .int .i64 0, .slice none 0 0, .slice none 0 0, .int .i64 0] 26)) (w.heap.size + 1) [.slice none 0 0, .int .i64 0, .slice none 0 0, .int .i64 0, .bool false, .bool false, .int .i64 0, .slice none 0 0, .slice none 0 0, .int .i64 0] := (by have := (Bx.new (w.alloc (Obj.cells #[(.slice Am1 m.regs.length cm1), .int .i64 m.pc, (.slice Am2 m.mem.length cm2), .int .i64 m.save, .bool m.lets, .bool m.waits, .int .i64 m.halt, (.slice Am3 m.ins.length cm3), (.slice Am4 m.outs.length cm4), .int .i64 m.count] 26)) #[.slice none 0 0, .int .i64 0, .slice none 0 0, .int .i64 0, .bool false, .bool false, .int .i64 0, .slice none 0 0, .slice none 0 0, .int .i64 0] 26); simpa using this)
    have hFres_0 : ∀ oo, (((w.alloc (Obj.cells #[(.slice Am1 m.regs.length cm1), .int .i64 m.pc, (.slice Am2 m.mem.length cm2), .int .i64 m.save, .bool m.lets, .bool m.waits, .int .i64 m.halt, (.slice Am3 m.ins.length cm3), (.slice Am4 m.outs.length cm4), .int .i64 m.count] 26)).alloc (Obj.cells #[.slice none 0 0, .int .i64 0, .slice none 0 0, .int .i64 0, .bool false, .bool false, .int .i64 0, .slice none 0 0, .slice none 0 0, .int .i64 0] 26))).frozen? ⟨w.heap.size + 1, oo, none⟩ = false := fun oo => by simp
    generalize ((w.alloc (Obj.cells #[(.slice Am1 m.regs.length cm1), .int .i64 m.pc, (.slice Am2 m.mem.length cm2), .int .i64 m.save, .bool m.lets, .bool m.waits, .int .i64 m.halt, (.slice Am3 m.ins.length cm3), (.slice Am4 m.outs.length cm4), .int .i64 m.count] 26)).alloc (Obj.cells #[.slice none 0 0, .int .i64 0, .slice none 0 0, .int .i64 0, .bool false, .bool false, .int .i64 0, .slice none 0 0, .slice none 0 0, .int .i64 0] 26)) = w0 at *
    have ym : w.heap.size < w0.heap.size := by omega
    have xm0 := hBm_0 0 _ rfl
    have xm1 := hBm_0 1 _ rfl
    have xm2 := hBm_0 2 _ rfl
    have xm3 := hBm_0 3 _ rfl
    have xm4 := hBm_0 4 _ rfl
    have xm5 := hBm_0 5 _ rfl
    have xm6 := hBm_0 6 _ rfl
    have xm7 := hBm_0 7 _ rfl
    have xm8 := hBm_0 8 _ rfl
    have xm9 := hBm_0 9 _ rfl
    have fm := hFm_0
    have yres : w.heap.size + 1 < w0.heap.size := by omega
    have xres0 := hBres_0 0 _ rfl
    have xres1 := hBres_0 1 _ rfl
    have xres2 := hBres_0 2 _ rfl
    have xres3 := hBres_0 3 _ rfl
    have xres4 := hBres_0 4 _ rfl
    have xres5 := hBres_0 5 _ rfl
    have xres6 := hBres_0 6 _ rfl
    have xres7 := hBres_0 7 _ rfl
    have xres8 := hBres_0 8 _ rfl
    have xres9 := hBres_0 9 _ rfl
    have fres := hFres_0
    go_wp2_with fail
    refine (implMchOk_any m _ _ _ _ _ (hm1.ext he0) (hm2.ext he0) (hm3.ext he0) (hm4.ext he0)).mono ?_
    rintro e w1 ⟨rfl, hy⟩
    simp only [q0]
    clear xm0 xm1 xm2 xm3 xm4 xm5 xm6 xm7 xm8 xm9 ym
    clear fm
    clear xres0 xres1 xres2 xres3 xres4 xres5 xres6 xres7 xres8 xres9 yres
    clear fres
    have hs1 := hy.size
    try simp at hs1
    have he1 : Ext w w1 := Ext.trans (Ext.hold he0) hy
    have hBm_1 : Bx w1 (w.heap.size) [(.slice Am1 m.regs.length cm1), .int .i64 m.pc, (.slice Am2 m.mem.length cm2), .int .i64 m.save, .bool m.lets, .bool m.waits, .int .i64 m.halt, (.slice Am3 m.ins.length cm3), (.slice Am4 m.outs.length cm4), .int .i64 m.count] := hy.bx (Bx.hold hBm_0) (by first | omega | (simp; done) | (simp; omega))
    have hFm_1 : ∀ oo, w1.frozen? ⟨w.heap.size, oo, none⟩ = false := fun oo => (hy.frozen (by first | omega | (simp; done) | (simp; omega))).trans ((fz_hold hFm_0) oo)
    have hBres_1 : Bx w1 (w.heap.size + 1) [.slice none 0 0, .int .i64 0, .slice none 0 0, .int .i64 0, .bool false, .bool false, .int .i64 0, .slice none 0 0, .slice none 0 0, .int .i64 0] := hy.bx (Bx.hold hBres_0) (by first | omega | (simp; done) | (simp; omega))
    have hFres_1 : ∀ oo, w1.frozen? ⟨w.heap.size + 1, oo, none⟩ = false := fun oo => (hy.frozen (by first | omega | (simp; done) | (simp; omega))).trans ((fz_hold hFres_0) oo)
    try clear hBm_0 hFm_0 hBres_0 hFres_0
    clear hy
    have yres : w.heap.size + 1 < w1.heap.size := by omega
    have xres0 := hBres_1 0 _ rfl
    have xres1 := hBres_1 1 _ rfl
    have xres2 := hBres_1 2 _ rfl
    have xres3 := hBres_1 3 _ rfl
    have xres4 := hBres_1 4 _ rfl
    have xres5 := hBres_1 5 _ rfl
    have xres6 := hBres_1 6 _ rfl
    have xres7 := hBres_1 7 _ rfl
    have xres8 := hBres_1 8 _ rfl
    have xres9 := hBres_1 9 _ rfl
    have fres := hFres_1
    go_wp2
    refine bodyPost_ret (v := .agg #[.slice none 0 0, .int .i64 0, .slice none 0 0, .int .i64 0, .bool false, .bool false, .int .i64 0, .slice none 0 0, .slice none 0 0, .int .i64 0]) (by simp [results, Tryd.results25, go_sem, xres0, xres1, xres2, xres3, xres4, xres5, xres6, xres7, xres8, xres9]) rfl ?_
    unfold RunPost
    rw [HV.out]
    exact ⟨.slice none 0 0, .slice none 0 0, .slice none 0 0, .slice none 0 0, [], [], [], [], rfl, OwnSl.nil _, OwnSl.nil _, OwnSl.nil _, OwnSl.nil _, Fr.nil _ _, Ext.hold he1⟩
  have q1 : decide (400 < n) = false := decide_eq_false hn4c
  have hn400 : n ≤ 400 := by omega
  have HR := hide (mRun_iter (irqs := irqs) q0 hn400)
  have hk := mOk_iff.1 q0
  have hfle := hF.le
  go_enter Tryd.func25, Tryd.ntmps25
  go_upto_region 1 with fail
  have he0 : Ext w ((w.alloc (Obj.cells #[(.slice Am1 m.regs.length cm1), .int .i64 m.pc, (.slice Am2 m.mem.length cm2), .int .i64 m.save, .bool m.lets, .bool m.waits, .int .i64 m.halt, (.slice Am3 m.ins.length cm3), (.slice Am4 m.outs.length cm4), .int .i64 m.count] 26)).alloc (Obj.cells #[.slice none 0 0, .int .i64 0, .slice none 0 0, .int .i64 0, .bool false, .bool false, .int .i64 0, .slice none 0 0, .slice none 0 0, .int .i64 0] 26)) := (Ext.auto)
  have hs0 : w.heap.size + 2 ≤ (((w.alloc (Obj.cells #[(.slice Am1 m.regs.length cm1), .int .i64 m.pc, (.slice Am2 m.mem.length cm2), .int .i64 m.save, .bool m.lets, .bool m.waits, .int .i64 m.halt, (.slice Am3 m.ins.length cm3), (.slice Am4 m.outs.length cm4), .int .i64 m.count] 26)).alloc (Obj.cells #[.slice none 0 0, .int .i64 0, .slice none 0 0, .int .i64 0, .bool false, .bool false, .int .i64 0, .slice none 0 0, .slice none 0 0, .int .i64 0] 26))).heap.size := by simp
  have hq0 := hide (show (((w.alloc (Obj.cells #[(.slice Am1 m.regs.length cm1), .int .i64 m.pc, (.slice Am2 m.mem.length cm2), .int .i64 m.save, .bool m.lets, .bool m.waits, .int .i64 m.halt, (.slice Am3 m.ins.length cm3), (.slice Am4 m.outs.length cm4), .int .i64 m.count] 26)).alloc (Obj.cells #[.slice none 0 0, .int .i64 0, .slice none 0 0, .int .i64 0, .bool false, .bool false, .int .i64 0, .slice none 0 0, .slice none 0 0, .int .i64 0] 26))).heap.size = w.heap.size + 2 by simp)
  have hBm_0 : Bx ((w.alloc (Obj.cells #[(.slice Am1 m.regs.length cm1), .int .i64 m.pc, (.slice Am2 m.mem.length cm2), .int .i64 m.save, .bool m.lets, .bool m.waits, .int .i64 m.halt, (.slice Am3 m.ins.length cm3), (.slice Am4 m.outs.length cm4), .int .i64 m.count] 26)).alloc (Obj.cells #[.slice none 0 0, .int .i64 0, .slice none 0 0, .int .i64 0, .bool false, .bool false, .int .i64 0, .slice none 0 0, .slice none 0 0, .int .i64 0] 26)) (w.heap.size) [(.slice Am1 m.regs.length cm1), .int .i64 m.pc, (.slice Am2 m.mem.length cm2), .int .i64 m.save, .bool m.lets, .bool m.waits, .int .i64 m.halt, (.slice Am3 m.ins.length cm3), (.slice Am4 m.outs.length cm4), .int .i64 m.count] := (by have := (Bx.alloc (Bx.new w #[(.slice Am1 m.regs.length cm1), .int .i64 m.pc, (.slice Am2 m.mem.length cm2), .int .i64 m.save, .bool m.lets, .bool m.waits, .int .i64 m.halt, (.slice Am3 m.ins.length cm3), (.slice Am4 m.outs.length cm4), .int .i64 m.count] 26) (by simp) #[.slice none 0 0, .int .i64 0, .slice none 0 0, .int .i64 0, .bool false, .bool false, .int .i64 0, .slice none 0 0, .slice none 0 0, .int .i64 0] 26); simpa using this)
  have hFm_0 : ∀ oo, (((w.alloc (Obj.cells #[(.slice Am1 m.regs.length cm1), .int .i64 m.pc, (.slice Am2 m.mem.length cm2), .int .i64 m.save, .bool m.lets, .bool m.waits, .int .i64 m.halt, (.slice Am3 m.ins.length cm3), (.slice Am4 m.outs.length cm4), .int .i64 m.count] 26)).alloc (Obj.cells #[.slice none 0 0, .int .i64 0, .slice none 0 0, .int .i64 0, .bool false, .bool false, .int .i64 0, .slice none 0 0, .slice none 0 0, .int .i64 0] 26))).frozen? ⟨w.heap.size, oo, none⟩ = false := fun oo => by simp
  have hBres_0 : Bx ((w.alloc (Obj.cells #[(.slice Am1 m.regs.length cm1), .int .i64 m.pc, (.slice Am2 m.mem.length cm2), .int .i64 m.save, .bool m.lets, .bool m.waits, .int .i64 m.halt, (.slice Am3 m.ins.length cm3), (.slice Am4 m.outs.length cm4), .int .i64 m.count] 26)).alloc (Obj.cells #[.slice none 0 0, .int .i64 0, .slice none 0 0, .int .i64 0, .bool false, .bool false, .int .i64 0, .slice none 0 0, .slice none 0 0, .int .i64 0] 26)) (w.heap.size + 1) [.slice none 0 0, .int .i64 0, .slice none 0 0, .int .i64 0, .bool false, .bool false, .int .i64 0, .slice none 0 0, .slice none 0 0, .int .i64 0] := (by have := (Bx.new (w.alloc (Obj.cells #[(.slice Am1 m.regs.length cm1), .int .i64 m.pc, (.slice Am2 m.mem.length cm2), .int .i64 m.save, .bool m.lets, .bool m.waits, .int .i64 m.halt, (.slice Am3 m.ins.length cm3), (.slice Am4 m.outs.length cm4), .int .i64 m.count] 26)) #[.slice none 0 0, .int .i64 0, .slice none 0 0, .int .i64 0, .bool false, .bool false, .int .i64 0, .slice none 0 0, .slice none 0 0, .int .i64 0] 26); simpa using this)
  have hFres_0 : ∀ oo, (((w.alloc (Obj.cells #[(.slice Am1 m.regs.length cm1), .int .i64 m.pc, (.slice Am2 m.mem.length cm2), .int .i64 m.save, .bool m.lets, .bool m.waits, .int .i64 m.halt, (.slice Am3 m.ins.length cm3), (.slice Am4 m.outs.length cm4), .int .i64 m.count] 26)).alloc (Obj.cells #[.slice none 0 0, .int .i64 0, .slice none 0 0, .int .i64 0, .bool false, .bool false, .int .i64 0, .slice none 0 0, .slice none 0 0, .int .i64 0] 26))).frozen? ⟨w.heap.size + 1, oo, none⟩ = false := fun oo => by simp
  generalize ((w.alloc (Obj.cells #[(.slice Am1 m.regs.length cm1), .int .i64 m.pc, (.slice Am2 m.mem.length cm2), .int .i64 m.save, .bool m.lets, .bool m.waits, .int .i64 m.halt, (.slice Am3 m.ins.length cm3), (.slice Am4 m.outs.length cm4), .int .i64 m.count] 26)).alloc (Obj.cells #[.slice none 0 0, .int .i64 0, .slice none 0 0, .int .i64 0, .bool false, .bool false, .int .i64 0, .slice none 0 0, .slice none 0 0, .int .i64 0] 26)) = w0 at *
  have ym : w.heap.size < w0.heap.size := by omega
  have xm0 := hBm_0 0 _ rfl
  have xm1 := hBm_0 1 _ rfl
  have xm2 := hBm_0 2 _ rfl
  have xm3 := hBm_0 3 _ rfl
  have xm4 := hBm_0 4 _ rfl
  have xm5 := hBm_0 5 _ rfl
  have xm6 := hBm_0 6 _ rfl
  have xm7 := hBm_0 7 _ rfl
  have xm8 := hBm_0 8 _ rfl
  have xm9 := hBm_0 9 _ rfl
  have fm := hFm_0
  have yres : w.heap.size + 1 < w0.heap.size := by omega
  have xres0 := hBres_0 0 _ rfl
  have xres1 := hBres_0 1 _ rfl
  have xres2 := hBres_0 2 _ rfl
  have xres3 := hBres_0 3 _ rfl
  have xres4 := hBres_0 4 _ rfl
  have xres5 := hBres_0 5 _ rfl
  have xres6 := hBres_0 6 _ rfl
  have xres7 := hBres_0 7 _ rfl
  have xres8 := hBres_0 8 _ rfl
  have xres9 := hBres_0 9 _ rfl
  have fres := hFres_0
  go_wp2_with fail
  refine (implMchOk_any m _ _ _ _ _ (hm1.ext he0) (hm2.ext he0) (hm3.ext he0) (hm4.ext he0)).mono ?_
  rintro e w1 ⟨rfl, hy⟩
  simp only [q0]
  clear q0
  clear xm0 xm1 xm2 xm3 xm4 xm5 xm6 xm7 xm8 xm9 ym
  clear fm
  clear xres0 xres1 xres2 xres3 xres4 xres5 xres6 xres7 xres8 xres9 yres
  clear fres
  have hs1 := hy.size
  try simp at hs1
  have he1 : Ext w w1 := Ext.trans (Ext.hold he0) hy
  have hBm_1 : Bx w1 (w.heap.size) [(.slice Am1 m.regs.length cm1), .int .i64 m.pc, (.slice Am2 m.mem.length cm2), .int .i64 m.save, .bool m.lets, .bool m.waits, .int .i64 m.halt, (.slice Am3 m.ins.length cm3), (.slice Am4 m.outs.length cm4), .int .i64 m.count] := hy.bx (Bx.hold hBm_0) (by first | omega | (simp; done) | (simp; omega))
  have hFm_1 : ∀ oo, w1.frozen? ⟨w.heap.size, oo, none⟩ = false := fun oo => (hy.frozen (by first | omega | (simp; done) | (simp; omega))).trans ((fz_hold hFm_0) oo)
  have hBres_1 : Bx w1 (w.heap.size + 1) [.slice none 0 0, .int .i64 0, .slice none 0 0, .int .i64 0, .bool false, .bool false, .int .i64 0, .slice none 0 0, .slice none 0 0, .int .i64 0] := hy.bx (Bx.hold hBres_0) (by first | omega | (simp; done) | (simp; omega))
  have hFres_1 : ∀ oo, w1.frozen? ⟨w.heap.size + 1, oo, none⟩ = false := fun oo => (hy.frozen (by first | omega | (simp; done) | (simp; omega))).trans ((fz_hold hFres_0) oo)
  try clear hBm_0 hFm_0 hBres_0 hFres_0
  clear hy
  have ym : w.heap.size < w1.heap.size := by omega
  have xm0 := hBm_1 0 _ rfl
  have xm1 := hBm_1 1 _ rfl
  have xm2 := hBm_1 2 _ rfl
  have xm3 := hBm_1 3 _ rfl
  have xm4 := hBm_1 4 _ rfl
  have xm5 := hBm_1 5 _ rfl
  have xm6 := hBm_1 6 _ rfl
  have xm7 := hBm_1 7 _ rfl
  have xm8 := hBm_1 8 _ rfl
  have xm9 := hBm_1 9 _ rfl
  have fm := hFm_1
  have yres : w.heap.size + 1 < w1.heap.size := by omega
  have xres0 := hBres_1 0 _ rfl
  have xres1 := hBres_1 1 _ rfl
  have xres2 := hBres_1 2 _ rfl
  have xres3 := hBres_1 3 _ rfl
  have xres4 := hBres_1 4 _ rfl
  have xres5 := hBres_1 5 _ rfl
  have xres6 := hBres_1 6 _ rfl
  have xres7 := hBres_1 7 _ rfl
  have xres8 := hBres_1 8 _ rfl
  have xres9 := hBres_1 9 _ rfl
  have fres := hFres_1
  go_wp2_with fail
  refine (cloneMachF_any m _ _ _ _ _ (hm1.ext he1) (hm2.ext he1) (hm3.ext he1) (hm4.ext he1) hn1 hn2 hn3 hn4).mono ?_
  rintro e w2 ⟨r1, r2, r3, r4, F1, F2, F3, Fs, xs, rfl, hr1, hr2, hr3, hA4, hfl, hfr, hoa, hcap, -, hy⟩
  obtain ⟨g1, o1, c1, g2, o2, c2, rfl, rfl, hM⟩ := Mach.fresh hr1 hr2 hr3 hA4 hfl hfr hoa hk.rl hk.ml hcap
  clear hr1 hr2 hr3 hA4 hfl hfr hoa hcap
  obtain ⟨A3, c3, rfl, hl3, hq3⟩ := hM.form3
  obtain ⟨A4, c4, rfl, hl4, hq4⟩ := hM.form4
  unfold maxLen at hq3 hq4
  clear xm0 xm1 xm2 xm3 xm4 xm5 xm6 xm7 xm8 xm9 ym
  clear fm
  clear xres0 xres1 xres2 xres3 xres4 xres5 xres6 xres7 xres8 xres9 yres
  clear fres
  have hs2 := hy.size
  try simp at hs2
  have he2 : Ext w w2 := Ext.trans (Ext.hold he1) hy
  have hBm_2 : Bx w2 (w.heap.size) [(.slice Am1 m.regs.length cm1), .int .i64 m.pc, (.slice Am2 m.mem.length cm2), .int .i64 m.save, .bool m.lets, .bool m.waits, .int .i64 m.halt, (.slice Am3 m.ins.length cm3), (.slice Am4 m.outs.length cm4), .int .i64 m.count] := hy.bx (Bx.hold hBm_1) (by first | omega | (simp; done) | (simp; omega))
  have hFm_2 : ∀ oo, w2.frozen? ⟨w.heap.size, oo, none⟩ = false := fun oo => (hy.frozen (by first | omega | (simp; done) | (simp; omega))).trans ((fz_hold hFm_1) oo)
  have hBres_2 : Bx w2 (w.heap.size + 1) [.slice none 0 0, .int .i64 0, .slice none 0 0, .int .i64 0, .bool false, .bool false, .int .i64 0, .slice none 0 0, .slice none 0 0, .int .i64 0] := hy.bx (Bx.hold hBres_1) (by first | omega | (simp; done) | (simp; omega))
  have hFres_2 : ∀ oo, w2.frozen? ⟨w.heap.size + 1, oo, none⟩ = false := fun oo => (hy.frozen (by first | omega | (simp; done) | (simp; omega))).trans ((fz_hold hFres_1) oo)
  try clear hBm_1 hFm_1 hBres_1 hFres_1
  clear hy
  have ym : w.heap.size < w2.heap.size := by omega
  have xm0 := hBm_2 0 _ rfl
  have xm1 := hBm_2 1 _ rfl
  have xm2 := hBm_2 2 _ rfl
  have xm3 := hBm_2 3 _ rfl
  have xm4 := hBm_2 4 _ rfl
  have xm5 := hBm_2 5 _ rfl
  have xm6 := hBm_2 6 _ rfl
  have xm7 := hBm_2 7 _ rfl
  have xm8 := hBm_2 8 _ rfl
  have xm9 := hBm_2 9 _ rfl
  have fm := hFm_2
  have yres : w.heap.size + 1 < w2.heap.size := by omega
  have xres0 := hBres_2 0 _ rfl
  have xres1 := hBres_2 1 _ rfl
  have xres2 := hBres_2 2 _ rfl
  have xres3 := hBres_2 3 _ rfl
  have xres4 := hBres_2 4 _ rfl
  have xres5 := hBres_2 5 _ rfl
  have xres6 := hBres_2 6 _ rfl
  have xres7 := hBres_2 7 _ rfl
  have xres8 := hBres_2 8 _ rfl
  have xres9 := hBres_2 9 _ rfl
  have fres := hFres_2
  go_wp2
  clear xm0 xm1 xm2 xm3 xm4 xm5 xm6 xm7 xm8 xm9 ym
  clear fm
  clear xres0 xres1 xres2 xres3 xres4 xres5 xres6 xres7 xres8 xres9 yres
  clear fres
  have he3 : Ext w (w2.alloc (Obj.cells #[(.slice (some ⟨g1, o1, none⟩) 4 c1), .int .i64 m.pc, (.slice (some ⟨g2, o2, none⟩) 64 c2), .int .i64 m.save, .bool m.lets, .bool m.waits, .int .i64 m.halt, (.slice A3 m.ins.length c3), (.slice A4 m.outs.length c4), .int .i64 m.count] 26)) := Ext.hold he2
  have hs3 : w2.heap.size + 1 ≤ ((w2.alloc (Obj.cells #[(.slice (some ⟨g1, o1, none⟩) 4 c1), .int .i64 m.pc, (.slice (some ⟨g2, o2, none⟩) 64 c2), .int .i64 m.save, .bool m.lets, .bool m.waits, .int .i64 m.halt, (.slice A3 m.ins.length c3), (.slice A4 m.outs.length c4), .int .i64 m.count] 26))).heap.size := by simp
  have hBm_3 : Bx (w2.alloc (Obj.cells #[(.slice (some ⟨g1, o1, none⟩) 4 c1), .int .i64 m.pc, (.slice (some ⟨g2, o2, none⟩) 64 c2), .int .i64 m.save, .bool m.lets, .bool m.waits, .int .i64 m.halt, (.slice A3 m.ins.length c3), (.slice A4 m.outs.length c4), .int .i64 m.count] 26)) (w.heap.size) [(.slice Am1 m.regs.length cm1), .int .i64 m.pc, (.slice Am2 m.mem.length cm2), .int .i64 m.save, .bool m.lets, .bool m.waits, .int .i64 m.halt, (.slice Am3 m.ins.length cm3), (.slice Am4 m.outs.length cm4), .int .i64 m.count] := Bx.hold hBm_2
  have hFm_3 : ∀ oo, (w2.alloc (Obj.cells #[(.slice (some ⟨g1, o1, none⟩) 4 c1), .int .i64 m.pc, (.slice (some ⟨g2, o2, none⟩) 64 c2), .int .i64 m.save, .bool m.lets, .bool m.waits, .int .i64 m.halt, (.slice A3 m.ins.length c3), (.slice A4 m.outs.length c4), .int .i64 m.count] 26)).frozen? ⟨w.heap.size, oo, none⟩ = false := fz_hold hFm_2
  have hBres_3 : Bx (w2.alloc (Obj.cells #[(.slice (some ⟨g1, o1, none⟩) 4 c1), .int .i64 m.pc, (.slice (some ⟨g2, o2, none⟩) 64 c2), .int .i64 m.save, .bool m.lets, .bool m.waits, .int .i64 m.halt, (.slice A3 m.ins.length c3), (.slice A4 m.outs.length c4), .int .i64 m.count] 26)) (w.heap.size + 1) [.slice none 0 0, .int .i64 0, .slice none 0 0, .int .i64 0, .bool false, .bool false, .int .i64 0, .slice none 0 0, .slice none 0 0, .int .i64 0] := Bx.hold hBres_2
  have hFres_3 : ∀ oo, (w2.alloc (Obj.cells #[(.slice (some ⟨g1, o1, none⟩) 4 c1), .int .i64 m.pc, (.slice (some ⟨g2, o2, none⟩) 64 c2), .int .i64 m.save, .bool m.lets, .bool m.waits, .int .i64 m.halt, (.slice A3 m.ins.length c3), (.slice A4 m.outs.length c4), .int .i64 m.count] 26)).frozen? ⟨w.heap.size + 1, oo, none⟩ = false := fz_hold hFres_2
  have hBx_3 : Bx (w2.alloc (Obj.cells #[(.slice (some ⟨g1, o1, none⟩) 4 c1), .int .i64 m.pc, (.slice (some ⟨g2, o2, none⟩) 64 c2), .int .i64 m.save, .bool m.lets, .bool m.waits, .int .i64 m.halt, (.slice A3 m.ins.length c3), (.slice A4 m.outs.length c4), .int .i64 m.count] 26)) (w2.heap.size) [(.slice (some ⟨g1, o1, none⟩) 4 c1), .int .i64 m.pc, (.slice (some ⟨g2, o2, none⟩) 64 c2), .int .i64 m.save, .bool m.lets, .bool m.waits, .int .i64 m.halt, (.slice A3 m.ins.length c3), (.slice A4 m.outs.length c4), .int .i64 m.count] := Bx.new w2 #[(.slice (some ⟨g1, o1, none⟩) 4 c1), .int .i64 m.pc, (.slice (some ⟨g2, o2, none⟩) 64 c2), .int .i64 m.save, .bool m.lets, .bool m.waits, .int .i64 m.halt, (.slice A3 m.ins.length c3), (.slice A4 m.outs.length c4), .int .i64 m.count] 26
  have hFx_3 : ∀ oo, (w2.alloc (Obj.cells #[(.slice (some ⟨g1, o1, none⟩) 4 c1), .int .i64 m.pc, (.slice (some ⟨g2, o2, none⟩) 64 c2), .int .i64 m.save, .bool m.lets, .bool m.waits, .int .i64 m.halt, (.slice A3 m.ins.length c3), (.slice A4 m.outs.length c4), .int .i64 m.count] 26)).frozen? ⟨w2.heap.size, oo, none⟩ = false := fz_new w2 #[(.slice (some ⟨g1, o1, none⟩) 4 c1), .int .i64 m.pc, (.slice (some ⟨g2, o2, none⟩) 64 c2), .int .i64 m.save, .bool m.lets, .bool m.waits, .int .i64 m.halt, (.slice A3 m.ins.length c3), (.slice A4 m.outs.length c4), .int .i64 m.count] 26 rfl
  have hMx := hM.addXs (show Ext w2 (w2.alloc (Obj.cells #[(.slice (some ⟨g1, o1, none⟩) 4 c1), .int .i64 m.pc, (.slice (some ⟨g2, o2, none⟩) 64 c2), .int .i64 m.save, .bool m.lets, .bool m.waits, .int .i64 m.halt, (.slice A3 m.ins.length c3), (.slice A4 m.outs.length c4), .int .i64 m.count] 26)) from Ext.auto) [w2.heap.size] (by intro b hb; simp at hb; subst hb; exact ⟨Nat.le_refl _, by simp⟩)
  generalize (w2.alloc (Obj.cells #[(.slice (some ⟨g1, o1, none⟩) 4 c1), .int .i64 m.pc, (.slice (some ⟨g2, o2, none⟩) 64 c2), .int .i64 m.save, .bool m.lets, .bool m.waits, .int .i64 m.halt, (.slice A3 m.ins.length c3), (.slice A4 m.outs.length c4), .int .i64 m.count] 26)) = w3 at *
  try clear hBm_2 hFm_2 hBres_2 hFres_2
  clear hM hm1 hm2 hm3 hm4
  go_loopw [2] (fun kk wz => ∃ (r : Int) (y : MchMach) (A3 A4 : Option Addr) (c3 c4 : Nat), kk = .int .i64 r ∧ Hid (mRun m irqs n = mIter irqs r.toNat y) ∧ MOk y ∧ y.outs.length + r.toNat ≤ 4190400 ∧ y.ins.length ≤ 4194304 ∧ Mach 3 w1.heap.size [w2.heap.size] wz g1 o1 c1 g2 o2 c2 (.slice A3 y.ins.length c3) (.slice A4 y.outs.length c4) y ∧ Ext w wz ∧ w3.heap.size ≤ wz.heap.size ∧ Bx wz (w2.heap.size) [(.slice (some ⟨g1, o1, none⟩) 4 c1), .int .i64 y.pc, (.slice (some ⟨g2, o2, none⟩) 64 c2), .int .i64 y.save, .bool y.lets, .bool y.waits, .int .i64 y.halt, (.slice A3 y.ins.length c3), (.slice A4 y.outs.length c4), .int .i64 y.count] ∧ (∀ oo, wz.frozen? ⟨w2.heap.size, oo, none⟩ = false) ∧ Bx wz (w.heap.size + 1) [.slice none 0 0, .int .i64 0, .slice none 0 0, .int .i64 0, .bool false, .bool false, .int .i64 0, .slice none 0 0, .slice none 0 0, .int .i64 0] ∧ (∀ oo, wz.frozen? ⟨w.heap.size + 1, oo, none⟩ = false)) (fun kk _ => (intOf kk).toNat)
  case atStart => exact ⟨n, m, A3, A4, c3, c4, rfl, hide (by rw [HR.out]), hk, by omega, hn3, hMx, he3, Nat.le_refl _, hBx_3, hFx_3, hBres_3, hFres_3⟩
  case round =>
    obtain ⟨w4, hwr⟩ : ∃ w4 : World, w4 = wr := ⟨_, rfl⟩
    subst hwr
    clear hMx hBx_3 hFx_3 hBres_3 hFres_3 hl3 hl4 hq3 hq4
    obtain ⟨r, y, A3y, A4y, c3y, c4y, rfl, HI, hky, hyo, hyi, hMy, he4, hs4, hBx_4, hFx_4, hBres_4, hFres_4⟩ := hrel
    by_cases hr : 0 < r
    rotate_left
    · 
      have q2 : decide (0 < r) = false := decide_eq_false hr
      have HV := hide (mRun_end HI.out hr)
      obtain ⟨sl1, sl2, sl3, sl4⟩ := hMy.sls
      have yx : w2.heap.size < w4.heap.size := by omega
      have xx0 := hBx_4 0 _ rfl
      have xx1 := hBx_4 1 _ rfl
      have xx2 := hBx_4 2 _ rfl
      have xx3 := hBx_4 3 _ rfl
      have xx4 := hBx_4 4 _ rfl
      have xx5 := hBx_4 5 _ rfl
      have xx6 := hBx_4 6 _ rfl
      have xx7 := hBx_4 7 _ rfl
      have xx8 := hBx_4 8 _ rfl
      have xx9 := hBx_4 9 _ rfl
      have fx := hFx_4
      go_wp2_with fail
      refine (cloneMach_any y _ _ _ _ _ sl1 sl2 sl3 sl4 (by have := hky.rl; omega) (by have := hky.ml; omega) hyi (by omega)).mono ?_
      rintro e w5 ⟨r1, r2, r3, r4, F1, F2, F3, F4, rfl, hO1, hO2, hO3, hO4, hFr, hy⟩
      clear xx0 xx1 xx2 xx3 xx4 xx5 xx6 xx7 xx8 xx9 yx
      clear fx
      have hs5 := hy.size
      try simp at hs5
      have he5 : Ext w w5 := Ext.trans (Ext.hold he4) hy
      have hBres_5 : Bx w5 (w.heap.size + 1) [.slice none 0 0, .int .i64 0, .slice none 0 0, .int .i64 0, .bool false, .bool false, .int .i64 0, .slice none 0 0, .slice none 0 0, .int .i64 0] := hy.bx (Bx.hold hBres_4) (by first | omega | (simp; done) | (simp; omega))
      have hFres_5 : ∀ oo, w5.frozen? ⟨w.heap.size + 1, oo, none⟩ = false := fun oo => (hy.frozen (by first | omega | (simp; done) | (simp; omega))).trans ((fz_hold hFres_4) oo)
      try clear hBres_4 hFres_4
      obtain ⟨B1, d1, rfl, -, -⟩ := hO1.sl.form
      obtain ⟨B2, d2, rfl, -, -⟩ := hO2.sl.form
      obtain ⟨B3, d3, rfl, -, -⟩ := hO3.sl.form
      obtain ⟨B4, d4, rfl, -, -⟩ := hO4.sl.form
      have hOw := Own4.mk (X := []) (lo := w4.heap.size) hO1 hO2 hO3 hO4 hFr (Nat.le_refl _) (by simp)
      clear hO1 hO2 hO3 hO4 hFr hy sl1 sl2 sl3 sl4
      obtain ⟨F1, F2, F3, F4, hO1, hO2, hO3, hO4, hFr, -⟩ := Own4.out hOw (a := w4) (Nat.le_refl _)
      have yres : w.heap.size + 1 < w5.heap.size := by omega
      have xres0 := hBres_5 0 _ rfl
      have xres1 := hBres_5 1 _ rfl
      have xres2 := hBres_5 2 _ rfl
      have xres3 := hBres_5 3 _ rfl
      have xres4 := hBres_5 4 _ rfl
      have xres5 := hBres_5 5 _ rfl
      have xres6 := hBres_5 6 _ rfl
      have xres7 := hBres_5 7 _ rfl
      have xres8 := hBres_5 8 _ rfl
      have xres9 := hBres_5 9 _ rfl
      have fres := hFres_5
      go_wp2
      refine bodyPost_ret (v := .agg #[(.slice B1 y.regs.length d1), .int .i64 y.pc, (.slice B2 y.mem.length d2), .int .i64 y.save, .bool y.lets, .bool y.waits, .int .i64 y.halt, (.slice B3 y.ins.length d3), (.slice B4 y.outs.length d4), .int .i64 y.count]) (by simp [results, Tryd.results25, go_sem, xres0, xres1, xres2, xres3, xres4, xres5, xres6, xres7, xres8, xres9]) rfl ?_
      unfold RunPost
      rw [HV.out]
      refine ⟨_, _, _, _, F1, F2, F3, F4, rfl, ?_, ?_, ?_, ?_, ?_, Ext.hold he5⟩
      · exact OwnSl.stay hO1 (fun b hb => by
          have q := hFr.2 b (by simp [hb]); have q1 := q.1; have q2 := q.2
          repeat (first | rw [heap_set _ _ _ _ (by show _ ≠ b; omega)] | rw [heap_set _ _ _ _ (by simp; omega)]))
      · exact OwnSl.stay hO2 (fun b hb => by
          have q := hFr.2 b (by simp [hb]); have q1 := q.1; have q2 := q.2
          repeat (first | rw [heap_set _ _ _ _ (by show _ ≠ b; omega)] | rw [heap_set _ _ _ _ (by simp; omega)]))
      · exact OwnSl.stay hO3 (fun b hb => by
          have q := hFr.2 b (by simp [hb]); have q1 := q.1; have q2 := q.2
          repeat (first | rw [heap_set _ _ _ _ (by show _ ≠ b; omega)] | rw [heap_set _ _ _ _ (by simp; omega)]))
      · exact OwnSl.stay hO4 (fun b hb => by
          have q := hFr.2 b (by simp [hb]); have q1 := q.1; have q2 := q.2
          repeat (first | rw [heap_set _ _ _ _ (by show _ ≠ b; omega)] | rw [heap_set _ _ _ _ (by simp; omega)]))
      · exact hFr.mk1 (by first | omega | (simp; done) | (simp; omega)) (by first | omega | (simp; done) | (simp; omega))
    have q2 : decide (0 < r) = true := decide_eq_true hr
    have yx : w2.heap.size < w4.heap.size := by omega
    have xx0 := hBx_4 0 _ rfl
    have xx1 := hBx_4 1 _ rfl
    have xx2 := hBx_4 2 _ rfl
    have xx3 := hBx_4 3 _ rfl
    have xx4 := hBx_4 4 _ rfl
    have xx5 := hBx_4 5 _ rfl
    have xx6 := hBx_4 6 _ rfl
    have xx7 := hBx_4 7 _ rfl
    have xx8 := hBx_4 8 _ rfl
    have xx9 := hBx_4 9 _ rfl
    have fx := hFx_4
    go_wp2_with fail
    refine (implGoes_any y _ _ _ _ _ _ _ _ _ _ _ _ _).mono ?_
    rintro e w5 ⟨rfl, hy⟩
    clear xx0 xx1 xx2 xx3 xx4 xx5 xx6 xx7 xx8 xx9 yx
    clear fx
    have hs5 := hy.size
    try simp at hs5
    have he5 : Ext w w5 := Ext.trans (Ext.hold he4) hy
    have hBx_5 : Bx w5 (w2.heap.size) [(.slice (some ⟨g1, o1, none⟩) 4 c1), .int .i64 y.pc, (.slice (some ⟨g2, o2, none⟩) 64 c2), .int .i64 y.save, .bool y.lets, .bool y.waits, .int .i64 y.halt, (.slice A3y y.ins.length c3y), (.slice A4y y.outs.length c4y), .int .i64 y.count] := hy.bx (Bx.hold hBx_4) (by first | omega | (simp; done) | (simp; omega))
    have hFx_5 : ∀ oo, w5.frozen? ⟨w2.heap.size, oo, none⟩ = false := fun oo => (hy.frozen (by first | omega | (simp; done) | (simp; omega))).trans ((fz_hold hFx_4) oo)
    have hBres_5 : Bx w5 (w.heap.size + 1) [.slice none 0 0, .int .i64 0, .slice none 0 0, .int .i64 0, .bool false, .bool false, .int .i64 0, .slice none 0 0, .slice none 0 0, .int .i64 0] := hy.bx (Bx.hold hBres_4) (by first | omega | (simp; done) | (simp; omega))
    have hFres_5 : ∀ oo, w5.frozen? ⟨w.heap.size + 1, oo, none⟩ = false := fun oo => (hy.frozen (by first | omega | (simp; done) | (simp; omega))).trans ((fz_hold hFres_4) oo)
    try clear hBx_4 hFx_4 hBres_4 hFres_4
    have hMn := hMy.ext hy
    clear hy hMy
    have hMy := hMn
    clear hMn
    cases qg : mGoes y
    · 
      have HV := hide (mRun_halt HI.out qg)
      obtain ⟨sl1, sl2, sl3, sl4⟩ := hMy.sls
      have yx : w2.heap.size < w5.heap.size := by omega
      have xx0 := hBx_5 0 _ rfl
      have xx1 := hBx_5 1 _ rfl
      have xx2 := hBx_5 2 _ rfl
      have xx3 := hBx_5 3 _ rfl
      have xx4 := hBx_5 4 _ rfl
      have xx5 := hBx_5 5 _ rfl
      have xx6 := hBx_5 6 _ rfl
      have xx7 := hBx_5 7 _ rfl
      have xx8 := hBx_5 8 _ rfl
      have xx9 := hBx_5 9 _ rfl
      have fx := hFx_5
      go_wp2_with fail
      refine (cloneMach_any y _ _ _ _ _ sl1 sl2 sl3 sl4 (by have := hky.rl; omega) (by have := hky.ml; omega) hyi (by omega)).mono ?_
      rintro e w6 ⟨r1, r2, r3, r4, F1, F2, F3, F4, rfl, hO1, hO2, hO3, hO4, hFr, hy⟩
      clear xx0 xx1 xx2 xx3 xx4 xx5 xx6 xx7 xx8 xx9 yx
      clear fx
      have hs6 := hy.size
      try simp at hs6
      have he6 : Ext w w6 := Ext.trans (Ext.hold he5) hy
      have hBres_6 : Bx w6 (w.heap.size + 1) [.slice none 0 0, .int .i64 0, .slice none 0 0, .int .i64 0, .bool false, .bool false, .int .i64 0, .slice none 0 0, .slice none 0 0, .int .i64 0] := hy.bx (Bx.hold hBres_5) (by first | omega | (simp; done) | (simp; omega))
      have hFres_6 : ∀ oo, w6.frozen? ⟨w.heap.size + 1, oo, none⟩ = false := fun oo => (hy.frozen (by first | omega | (simp; done) | (simp; omega))).trans ((fz_hold hFres_5) oo)
      try clear hBres_5 hFres_5
      obtain ⟨B1, d1, rfl, -, -⟩ := hO1.sl.form
      obtain ⟨B2, d2, rfl, -, -⟩ := hO2.sl.form
      obtain ⟨B3, d3, rfl, -, -⟩ := hO3.sl.form
      obtain ⟨B4, d4, rfl, -, -⟩ := hO4.sl.form
      have hOw := Own4.mk (X := []) (lo := w5.heap.size) hO1 hO2 hO3 hO4 hFr (Nat.le_refl _) (by simp)
      clear hO1 hO2 hO3 hO4 hFr hy sl1 sl2 sl3 sl4
      obtain ⟨F1, F2, F3, F4, hO1, hO2, hO3, hO4, hFr, -⟩ := Own4.out hOw (a := w5) (Nat.le_refl _)
      have yres : w.heap.size + 1 < w6.heap.size := by omega
      have xres0 := hBres_6 0 _ rfl
      have xres1 := hBres_6 1 _ rfl
      have xres2 := hBres_6 2 _ rfl
      have xres3 := hBres_6 3 _ rfl
      have xres4 := hBres_6 4 _ rfl
      have xres5 := hBres_6 5 _ rfl
      have xres6 := hBres_6 6 _ rfl
      have xres7 := hBres_6 7 _ rfl
      have xres8 := hBres_6 8 _ rfl
      have xres9 := hBres_6 9 _ rfl
      have fres := hFres_6
      go_wp2
      refine bodyPost_ret (v := .agg #[(.slice B1 y.regs.length d1), .int .i64 y.pc, (.slice B2 y.mem.length d2), .int .i64 y.save, .bool y.lets, .bool y.waits, .int .i64 y.halt, (.slice B3 y.ins.length d3), (.slice B4 y.outs.length d4), .int .i64 y.count]) (by simp [results, Tryd.results25, go_sem, xres0, xres1, xres2, xres3, xres4, xres5, xres6, xres7, xres8, xres9]) rfl ?_
      unfold RunPost
      rw [HV.out]
      refine ⟨_, _, _, _, F1, F2, F3, F4, rfl, ?_, ?_, ?_, ?_, ?_, Ext.hold he6⟩
      · exact OwnSl.stay hO1 (fun b hb => by
          have q := hFr.2 b (by simp [hb]); have q1 := q.1; have q2 := q.2
          repeat (first | rw [heap_set _ _ _ _ (by show _ ≠ b; omega)] | rw [heap_set _ _ _ _ (by simp; omega)]))
      · exact OwnSl.stay hO2 (fun b hb => by
          have q := hFr.2 b (by simp [hb]); have q1 := q.1; have q2 := q.2
          repeat (first | rw [heap_set _ _ _ _ (by show _ ≠ b; omega)] | rw [heap_set _ _ _ _ (by simp; omega)]))
      · exact OwnSl.stay hO3 (fun b hb => by
          have q := hFr.2 b (by simp [hb]); have q1 := q.1; have q2 := q.2
          repeat (first | rw [heap_set _ _ _ _ (by show _ ≠ b; omega)] | rw [heap_set _ _ _ _ (by simp; omega)]))
      · exact OwnSl.stay hO4 (fun b hb => by
          have q := hFr.2 b (by simp [hb]); have q1 := q.1; have q2 := q.2
          repeat (first | rw [heap_set _ _ _ _ (by show _ ≠ b; omega)] | rw [heap_set _ _ _ _ (by simp; omega)]))
      · exact hFr.mk1 (by first | omega | (simp; done) | (simp; omega)) (by first | omega | (simp; done) | (simp; omega))
    · 
      have HN := hide (mRun_next HI.out hr qg)
      have hc := (mGoes_iff.1 qg).2
      have hka := hky.act hc (hasI irqs y.count)
      have hln := mAct_lens y (hasI irqs y.count)
      have hln1 := hln.1
      have hln2 := hln.2
      have hcm := hky.c0
      clear hln
      have hlt := hMy.lt.2.2.2.2
      have hfoot : ∀ x, x ∈ (w2.heap.size :: mfoot g1 g2 (Value.slice A4y y.outs.length c4y)) → w1.heap.size ≤ x ∧ x < w5.heap.size := fun x hx => by
        rcases List.mem_cons.1 hx with h | h
        · subst h; exact ⟨by omega, by omega⟩
        · exact hlt x h
      clear hlt
      have hFn := hF.ext he5
      have yx : w2.heap.size < w5.heap.size := by omega
      have xx0 := hBx_5 0 _ rfl
      have xx1 := hBx_5 1 _ rfl
      have xx2 := hBx_5 2 _ rfl
      have xx3 := hBx_5 3 _ rfl
      have xx4 := hBx_5 4 _ rfl
      have xx5 := hBx_5 5 _ rfl
      have xx6 := hBx_5 6 _ rfl
      have xx7 := hBx_5 7 _ rfl
      have xx8 := hBx_5 8 _ rfl
      have xx9 := hBx_5 9 _ rfl
      have fx := hFx_5
      go_wp2_with fail
      refine (containsInt_any irqs y.count _ _ (hirqs.ext he5)).mono ?_
      rintro e w' ⟨rfl, rfl⟩
      go_wp2_with fail
      refine (step_any y _ _ _ _ _ _ _ _ _ _ _ hMy hky hc (by omega) (hasI irqs y.count) w2.heap.size (by simp) hBx_5 hFx_5 lf hFn (by omega)).mono ?_
      rintro e w6 ⟨rfl, v3', v4', hBF, hFF, hMF, hy, -⟩
      obtain ⟨A5, c5, rfl, -, -⟩ := hMF.form3
      obtain ⟨A6, c6, rfl, -, -⟩ := hMF.form4
      clear xx0 xx1 xx2 xx3 xx4 xx5 xx6 xx7 xx8 xx9 yx
      clear fx
      have hs6 := hy.size
      try simp at hs6
      have he6 : Ext w w6 := hy.ext (Ext.hold he5) (fun x hx => by have := (hfoot x hx).1; omega)
      have hBres_6 : Bx w6 (w.heap.size + 1) [.slice none 0 0, .int .i64 0, .slice none 0 0, .int .i64 0, .bool false, .bool false, .int .i64 0, .slice none 0 0, .slice none 0 0, .int .i64 0] := hy.bx (Bx.hold hBres_5) (by first | omega | (simp; done) | (simp; omega)) (fun hm => by have := hfoot _ hm; omega)
      have hFres_6 : ∀ oo, w6.frozen? ⟨w.heap.size + 1, oo, none⟩ = false := fun oo => (hy.frozen (by first | omega | (simp; done) | (simp; omega)) (fun hm => by have := hfoot _ hm; omega)).trans ((fz_hold hFres_5) oo)
      try clear hBres_5 hFres_5
      go_wp2
      go_round
      case rel => exact ⟨r - 1, _, A5, A6, c5, c6, by go_num, HN, hka, by omega, by omega, hMF, he6, by omega, hBF, hFF, hBres_6, hFres_6⟩
      case measure => (simp [intOf]; try omega)

end Go.Proofs.YtabldlhigjhkeaaDoor
