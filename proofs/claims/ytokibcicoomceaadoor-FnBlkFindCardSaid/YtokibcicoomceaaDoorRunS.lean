/-
  A run of a machine: the reference.
-/
import Derived.Test.YtokibcicoomceaaDoorMstS
import Derived.Test.YtokibcicoomceaaDoorRunLib
import Derived.Deep.DeepCutAuto
namespace Go.Proofs.YtokibcicoomceaaDoor
open Go.RowKit

set_option linter.unusedVariables false
set_option linter.unusedSimpArgs false
set_option maxRecDepth 100000

def RunPost (w : World) (m : MchMach) (e : Ending) (w' : World) : Prop := ∃ (r1 r2 r3 r4 : Value) (F1 F2 F3 F4 : List Nat), e = .returned (.agg #[r1, .int .i64 m.pc, r2, .int .i64 m.save, .bool m.lets, .bool m.waits, .int .i64 m.halt, r3, r4, .int .i64 m.count]) ∧ OwnSl w' r1 m.regs F1 ∧ OwnSl w' r2 m.mem F2 ∧ OwnSl w' r3 m.ins F3 ∧ OwnSl w' r4 m.outs F4 ∧ Fr w w' (F1 ++ F2 ++ F3 ++ F4) ∧ Ext w w'
def RunPostC (w : World) (m : MchMach) (e : Ending) (w' : World) : Prop := ∃ (r1 r2 r3 r4 : Value), e = .returned (.agg #[r1, .int .i64 m.pc, r2, .int .i64 m.save, .bool m.lets, .bool m.waits, .int .i64 m.halt, r3, r4, .int .i64 m.count]) ∧ Own4C 3 [] w.heap.size w' r1 r2 r3 r4 m ∧ Ext w w'

theorem Cap.sets10 {w : World} {e : TypeId} {v : Value} {b : Nat} (h : Cap e w v) (a0 a1 a2 a3 a4 a5 a6 a7 a8 a9 : Value) : Cap e (((((((((((w.setCell ⟨b, 0, none⟩ a0).setCell ⟨b, 1, none⟩ a1).setCell ⟨b, 2, none⟩ a2).setCell ⟨b, 3, none⟩ a3).setCell ⟨b, 4, none⟩ a4).setCell ⟨b, 5, none⟩ a5).setCell ⟨b, 6, none⟩ a6).setCell ⟨b, 7, none⟩ a7).setCell ⟨b, 8, none⟩ a8).setCell ⟨b, 9, none⟩ a9)) v :=
  (((((((((h.set _ _).set _ _).set _ _).set _ _).set _ _).set _ _).set _ _).set _ _).set _ _).set _ _
theorem Own4.addX {X : List Nat} {lo : Nat} {w w' : World} {r1 r2 r3 r4 : Value} {m : MchMach} (h : Own4 X lo w r1 r2 r3 r4 m) (hx : Ext w w') {b : Nat} (hb : w.heap.size ≤ b) : Own4 (b :: X) lo w' r1 r2 r3 r4 m := by
  obtain ⟨F1, F2, F3, F4, h1, h2, h3, h4, hn, hf⟩ := h.ext hx
  obtain ⟨G1, G2, G3, G4, k1, k2, k3, k4, kn, kf⟩ := h
  exact ⟨G1, G2, G3, G4, k1.stay (fun c hc => hx.heap (kf c (by simp [hc])).2.1), k2.stay (fun c hc => hx.heap (kf c (by simp [hc])).2.1), k3.stay (fun c hc => hx.heap (kf c (by simp [hc])).2.1), k4.stay (fun c hc => hx.heap (kf c (by simp [hc])).2.1), kn,
    fun c hc => ⟨(kf c hc).1, Nat.lt_of_lt_of_le (kf c hc).2.1 hx.size, fun hm => by
      rcases List.mem_cons.1 hm with e | e
      · subst e; have := (kf c hc).2.1; omega
      · exact (kf c hc).2.2 e⟩⟩

theorem l3Has_any (l : List Int) (n : Int) (v : Value) (w : World) (h : Sl w (Old w) v l) :
    Calls Tryd.prog 107 #[v, .int .i64 n] w fun e w' => e = .returned (.bool (hasI l n)) ∧ w = w' := by
  obtain ⟨A, c, rfl, hl, hm⟩ := h.form
  unfold maxLen at hm
  go_enter Tryd.func107, Tryd.ntmps107
  go_wp2
  go_loop [5] (fun i => ∃ k : Nat, k ≤ l.length ∧ i = .int .i64 k ∧ Hid (∀ a, a ∈ l.take k → a ≠ n)) (fun i => l.length - (intOf i).toNat)
  case atStart => exact ⟨0, by omega, rfl, by intro a ha; simp at ha⟩
  case round =>
    obtain ⟨k, hk, rfl, HN⟩ := hrel
    by_cases hlt : k < l.length
    · obtain ⟨b, off, rfl, hbo, hk0, e0⟩ := at_Int h hlt
      have z0 : (0 : Int) ≤ (k : Int) := by omega
      have z1 : (k : Int) < (l.length : Int) := by omega
      cases hq : (l[k] == n)
      · have HT := hide (has_next hlt HN.out hq)
        go_wp2
        go_round
        case rel => exact ⟨k + 1, by omega, by go_num, HT.out⟩
        case measure => (simp [intOf]; try omega)
      · have HF := hide (has_yes hlt hq)
        go_wp2
        go_ret
        exact ⟨by rw [HF.out]; rfl, rfl⟩
    · obtain rfl : k = l.length := by omega
      have HF := hide (has_no HN.out)
      go_wp2
      go_ret
      exact ⟨by rw [HF.out]; rfl, rfl⟩

set_option maxHeartbeats 64000000 in
theorem specMchRun_p (m : MchMach) (irqs : List Int) (n : Int) (vm1 vm2 vm3 vm4 virqs : Value) (w : World) (hm1 : Sl w (Old w) vm1 m.regs) (hm2 : Sl w (Old w) vm2 m.mem) (hm3 : Sl w (Old w) vm3 m.ins) (hm4 : Sl w (Old w) vm4 m.outs) (hirqs : Sl w (Old w) virqs irqs) (hn1 : m.regs.length ≤ 4194304) (hn2 : m.mem.length ≤ 4194304) (hn3 : m.ins.length ≤ 4194304) (hn4 : m.outs.length ≤ 4194304) (hn5 : m.outs.length ≤ 4190000) :
    Calls Tryd.prog 101 #[.agg #[vm1, .int .i64 m.pc, vm2, .int .i64 m.save, .bool m.lets, .bool m.waits, .int .i64 m.halt, vm3, vm4, .int .i64 m.count], virqs, .int .i64 n] w fun e w' => RunPostC w (mRun m irqs n) e w' := by
  obtain ⟨Am1, cm1, rfl, hlm1, hmm1⟩ := hm1.form
  obtain ⟨Am2, cm2, rfl, hlm2, hmm2⟩ := hm2.form
  obtain ⟨Am3, cm3, rfl, hlm3, hmm3⟩ := hm3.form
  obtain ⟨Am4, cm4, rfl, hlm4, hmm4⟩ := hm4.form
  obtain ⟨Airqs, cirqs, rfl, hlirqs, hmirqs⟩ := hirqs.form
  cases q0 : mchOkB m
  · 
    have HV := hide (mRun_no (irqs := irqs) (n := n) q0)
    go_enter Tryd.func101, Tryd.ntmps101
    go_upto_region 1 with fail
    have he0 : Ext w ((w.alloc (Obj.cells #[(.slice Am1 m.regs.length cm1), .int .i64 m.pc, (.slice Am2 m.mem.length cm2), .int .i64 m.save, .bool m.lets, .bool m.waits, .int .i64 m.halt, (.slice Am3 m.ins.length cm3), (.slice Am4 m.outs.length cm4), .int .i64 m.count] 51)).alloc (Obj.cells #[.slice none 0 0, .int .i64 0, .slice none 0 0, .int .i64 0, .bool false, .bool false, .int .i64 0, .slice none 0 0, .slice none 0 0, .int .i64 0] 51)) := (Ext.auto)
    have hs0 : w.heap.size + 2 ≤ (((w.alloc (Obj.cells #[(.slice Am1 m.regs.length cm1), .int .i64 m.pc, (.slice Am2 m.mem.length cm2), .int .i64 m.save, .bool m.lets, .bool m.waits, .int .i64 m.halt, (.slice Am3 m.ins.length cm3), (.slice Am4 m.outs.length cm4), .int .i64 m.count] 51)).alloc (Obj.cells #[.slice none 0 0, .int .i64 0, .slice none 0 0, .int .i64 0, .bool false, .bool false, .int .i64 0, .slice none 0 0, .slice none 0 0, .int .i64 0] 51))).heap.size := by simp
    have hq0 := hide (show (((w.alloc (Obj.cells #[(.slice Am1 m.regs.length cm1), .int .i64 m.pc, (.slice Am2 m.mem.length cm2), .int .i64 m.save, .bool m.lets, .bool m.waits, .int .i64 m.halt, (.slice Am3 m.ins.length cm3), (.slice Am4 m.outs.length cm4), .int .i64 m.count] 51)).alloc (Obj.cells #[.slice none 0 0, .int .i64 0, .slice none 0 0, .int .i64 0, .bool false, .bool false, .int .i64 0, .slice none 0 0, .slice none 0 0, .int .i64 0] 51))).heap.size = w.heap.size + 2 by simp)
    have hBm_0 : Bx ((w.alloc (Obj.cells #[(.slice Am1 m.regs.length cm1), .int .i64 m.pc, (.slice Am2 m.mem.length cm2), .int .i64 m.save, .bool m.lets, .bool m.waits, .int .i64 m.halt, (.slice Am3 m.ins.length cm3), (.slice Am4 m.outs.length cm4), .int .i64 m.count] 51)).alloc (Obj.cells #[.slice none 0 0, .int .i64 0, .slice none 0 0, .int .i64 0, .bool false, .bool false, .int .i64 0, .slice none 0 0, .slice none 0 0, .int .i64 0] 51)) (w.heap.size) [(.slice Am1 m.regs.length cm1), .int .i64 m.pc, (.slice Am2 m.mem.length cm2), .int .i64 m.save, .bool m.lets, .bool m.waits, .int .i64 m.halt, (.slice Am3 m.ins.length cm3), (.slice Am4 m.outs.length cm4), .int .i64 m.count] := (by have := (Bx.alloc (Bx.new w #[(.slice Am1 m.regs.length cm1), .int .i64 m.pc, (.slice Am2 m.mem.length cm2), .int .i64 m.save, .bool m.lets, .bool m.waits, .int .i64 m.halt, (.slice Am3 m.ins.length cm3), (.slice Am4 m.outs.length cm4), .int .i64 m.count] 51) (by simp) #[.slice none 0 0, .int .i64 0, .slice none 0 0, .int .i64 0, .bool false, .bool false, .int .i64 0, .slice none 0 0, .slice none 0 0, .int .i64 0] 51); simpa using this)
    have hFm_0 : ∀ oo, (((w.alloc (Obj.cells #[(.slice Am1 m.regs.length cm1), .int .i64 m.pc, (.slice Am2 m.mem.length cm2), .int .i64 m.save, .bool m.lets, .bool m.waits, .int .i64 m.halt, (.slice Am3 m.ins.length cm3), (.slice Am4 m.outs.length cm4), .int .i64 m.count] 51)).alloc (Obj.cells #[.slice none 0 0, .int .i64 0, .slice none 0 0, .int .i64 0, .bool false, .bool false, .int .i64 0, .slice none 0 0, .slice none 0 0, .int .i64 0] 51))).frozen? ⟨w.heap.size, oo, none⟩ = false := fun oo => by simp
    have hBres_0 : Bx ((w.alloc (Obj.cells #[(.slice Am1 m.regs.length cm1), .int .i64 m.pc, (.slice Am2 m.mem.length cm2), .int .i64 m.save, .bool m.lets, .bool m.waits, .int .i64 m.halt, (.slice Am3 m.ins.length cm3), (.slice Am4 m.outs.length cm4), .int .i64 m.count] 51)).alloc (Obj.cells #[.slice none 0 0, .int .i64 0, .slice none 0 0, .int .i64 0, .bool false, .bool false, .int .i64 0, .slice none 0 0, .slice none 0 0, .int .i64 0] 51)) (w.heap.size + 1) [.slice none 0 0, .int .i64 0, .slice none 0 0, .int .i64 0, .bool false, .bool false, .int .i64 0, .slice none 0 0, .slice none 0 0, .int .i64 0] := (by have := (Bx.new (w.alloc (Obj.cells #[(.slice Am1 m.regs.length cm1), .int .i64 m.pc, (.slice Am2 m.mem.length cm2), .int .i64 m.save, .bool m.lets, .bool m.waits, .int .i64 m.halt, (.slice Am3 m.ins.length cm3), (.slice Am4 m.outs.length cm4), .int .i64 m.count] 51)) #[.slice none 0 0, .int .i64 0, .slice none 0 0, .int .i64 0, .bool false, .bool false, .int .i64 0, .slice none 0 0, .slice none 0 0, .int .i64 0] 51); simpa using this)
    have hFres_0 : ∀ oo, (((w.alloc (Obj.cells #[(.slice Am1 m.regs.length cm1), .int .i64 m.pc, (.slice Am2 m.mem.length cm2), .int .i64 m.save, .bool m.lets, .bool m.waits, .int .i64 m.halt, (.slice Am3 m.ins.length cm3), (.slice Am4 m.outs.length cm4), .int .i64 m.count] 51)).alloc (Obj.cells #[.slice none 0 0, .int .i64 0, .slice none 0 0, .int .i64 0, .bool false, .bool false, .int .i64 0, .slice none 0 0, .slice none 0 0, .int .i64 0] 51))).frozen? ⟨w.heap.size + 1, oo, none⟩ = false := fun oo => by simp
    generalize ((w.alloc (Obj.cells #[(.slice Am1 m.regs.length cm1), .int .i64 m.pc, (.slice Am2 m.mem.length cm2), .int .i64 m.save, .bool m.lets, .bool m.waits, .int .i64 m.halt, (.slice Am3 m.ins.length cm3), (.slice Am4 m.outs.length cm4), .int .i64 m.count] 51)).alloc (Obj.cells #[.slice none 0 0, .int .i64 0, .slice none 0 0, .int .i64 0, .bool false, .bool false, .int .i64 0, .slice none 0 0, .slice none 0 0, .int .i64 0] 51)) = w0 at *
    have ym : w.heap.size < w0.heap.size := by omega
    have xm0 := hBm_0 0 _ rfl
    have xm1 := hBm_0 1 _ rfl
    have xm2 := hBm_0 2 _ rfl
    have xm3 := hBm_0 3 _ rfl
    have xm4 := hBm_0 4 _ rfl
    have xm5 := hBm_0 5 _ rfl
    have xm6 := hBm_0 6 _ rfl
    have xm7 := hBm_0 7 _ rfl
    have xm8 := hBm_0 8 _ rfl
    have xm9 := hBm_0 9 _ rfl
    have fm := hFm_0
    have yres : w.heap.size + 1 < w0.heap.size := by omega
    have xres0 := hBres_0 0 _ rfl
    have xres1 := hBres_0 1 _ rfl
    have xres2 := hBres_0 2 _ rfl
    have xres3 := hBres_0 3 _ rfl
    have xres4 := hBres_0 4 _ rfl
    have xres5 := hBres_0 5 _ rfl
    have xres6 := hBres_0 6 _ rfl
    have xres7 := hBres_0 7 _ rfl
    have xres8 := hBres_0 8 _ rfl
    have xres9 := hBres_0 9 _ rfl
    have fres := hFres_0
    go_wp2_with fail
    refine (specMchOk_any m _ _ _ _ _ (hm1.ext he0) (hm2.ext he0) (hm3.ext he0) (hm4.ext he0)).mono ?_
    rintro e w1 ⟨rfl, hy⟩
    simp only [q0]
    clear xm0 xm1 xm2 xm3 xm4 xm5 xm6 xm7 xm8 xm9 ym
    clear fm
    clear xres0 xres1 xres2 xres3 xres4 xres5 xres6 xres7 xres8 xres9 yres
    clear fres
    have hs1 := hy.size
    try simp at hs1
    have he1 : Ext w w1 := Ext.trans (Ext.hold he0) hy
    have hBm_1 : Bx w1 (w.heap.size) [(.slice Am1 m.regs.length cm1), .int .i64 m.pc, (.slice Am2 m.mem.length cm2), .int .i64 m.save, .bool m.lets, .bool m.waits, .int .i64 m.halt, (.slice Am3 m.ins.length cm3), (.slice Am4 m.outs.length cm4), .int .i64 m.count] := hy.bx (Bx.hold hBm_0) (by first | omega | (simp; done) | (simp; omega))
    have hFm_1 : ∀ oo, w1.frozen? ⟨w.heap.size, oo, none⟩ = false := fun oo => (hy.frozen (by first | omega | (simp; done) | (simp; omega))).trans ((fz_hold hFm_0) oo)
    have hBres_1 : Bx w1 (w.heap.size + 1) [.slice none 0 0, .int .i64 0, .slice none 0 0, .int .i64 0, .bool false, .bool false, .int .i64 0, .slice none 0 0, .slice none 0 0, .int .i64 0] := hy.bx (Bx.hold hBres_0) (by first | omega | (simp; done) | (simp; omega))
    have hFres_1 : ∀ oo, w1.frozen? ⟨w.heap.size + 1, oo, none⟩ = false := fun oo => (hy.frozen (by first | omega | (simp; done) | (simp; omega))).trans ((fz_hold hFres_0) oo)
    try clear hBm_0 hFm_0 hBres_0 hFres_0
    clear hy
    have yres : w.heap.size + 1 < w1.heap.size := by omega
    have xres0 := hBres_1 0 _ rfl
    have xres1 := hBres_1 1 _ rfl
    have xres2 := hBres_1 2 _ rfl
    have xres3 := hBres_1 3 _ rfl
    have xres4 := hBres_1 4 _ rfl
    have xres5 := hBres_1 5 _ rfl
    have xres6 := hBres_1 6 _ rfl
    have xres7 := hBres_1 7 _ rfl
    have xres8 := hBres_1 8 _ rfl
    have xres9 := hBres_1 9 _ rfl
    have fres := hFres_1
    go_wp2
    refine bodyPost_ret (v := .agg #[.slice none 0 0, .int .i64 0, .slice none 0 0, .int .i64 0, .bool false, .bool false, .int .i64 0, .slice none 0 0, .slice none 0 0, .int .i64 0]) (by simp [results, Tryd.results101, go_sem, xres0, xres1, xres2, xres3, xres4, xres5, xres6, xres7, xres8, xres9]) rfl ?_
    unfold RunPostC
    rw [HV.out]
    exact ⟨.slice none 0 0, .slice none 0 0, .slice none 0 0, .slice none 0 0, rfl, Own4C.nil _ _ _, Ext.hold he1⟩
  by_cases hn4c : 400 < n
  · 
    have HV := hide (mRun_long (m := m) (irqs := irqs) hn4c)
    have q1 : decide (400 < n) = true := decide_eq_true hn4c
    go_enter Tryd.func101, Tryd.ntmps101
    go_upto_region 1 with fail
    have he0 : Ext w ((w.alloc (Obj.cells #[(.slice Am1 m.regs.length cm1), .int .i64 m.pc, (.slice Am2 m.mem.length cm2), .int .i64 m.save, .bool m.lets, .bool m.waits, .int .i64 m.halt, (.slice Am3 m.ins.length cm3), (.slice Am4 m.outs.length cm4), .int .i64 m.count] 51)).alloc (Obj.cells #[.slice none 0 0, .int .i64 0, .slice none 0 0, .int .i64 0, .bool false, .bool false, .int .i64 0, .slice none 0 0, .slice none 0 0, .int .i64 0] 51)) := (Ext.auto)
    have hs0 : w.heap.size + 2 ≤ (((w.alloc (Obj.cells #[(.slice Am1 m.regs.length cm1), .int .i64 m.pc, (.slice Am2 m.mem.length cm2), .int .i64 m.save, .bool m.lets, .bool m.waits, .int .i64 m.halt, (.slice Am3 m.ins.length cm3), (.slice Am4 m.outs.length cm4), .int .i64 m.count] 51)).alloc (Obj.cells #[.slice none 0 0, .int .i64 0, .slice none 0 0, .int .i64 0, .bool false, .bool false, .int .i64 0, .slice none 0 0, .slice none 0 0, .int .i64 0] 51))).heap.size := by simp
    have hq0 := hide (show (((w.alloc (Obj.cells #[(.slice Am1 m.regs.length cm1), .int .i64 m.pc, (.slice Am2 m.mem.length cm2), .int .i64 m.save, .bool m.lets, .bool m.waits, .int .i64 m.halt, (.slice Am3 m.ins.length cm3), (.slice Am4 m.outs.length cm4), .int .i64 m.count] 51)).alloc (Obj.cells #[.slice none 0 0, .int .i64 0, .slice none 0 0, .int .i64 0, .bool false, .bool false, .int .i64 0, .slice none 0 0, .slice none 0 0, .int .i64 0] 51))).heap.size = w.heap.size + 2 by simp)
    have hBm_0 : Bx ((w.alloc (Obj.cells #[(.slice Am1 m.regs.length cm1), .int .i64 m.pc, (.slice Am2 m.mem.length cm2), .int .i64 m.save, .bool m.lets, .bool m.waits, .int .i64 m.halt, (.slice Am3 m.ins.length cm3), (.slice Am4 m.outs.length cm4), .int .i64 m.count] 51)).alloc (Obj.cells #[.slice none 0 0, .int .i64 0, .slice none 0 0, .int .i64 0, .bool false, .bool false, .int .i64 0, .slice none 0 0, .slice none 0 0, .int .i64 0] 51)) (w.heap.size) [(.slice Am1 m.regs.length cm1), .int .i64 m.pc, (.slice Am2 m.mem.length cm2), .int .i64 m.save, .bool m.lets, .bool m.waits, .int .i64 m.halt, (.slice Am3 m.ins.length cm3), (.slice Am4 m.outs.length cm4), .int .i64 m.count] := (by have := (Bx.alloc (Bx.new w #[(.slice Am1 m.regs.length cm1), .int .i64 m.pc, (.slice Am2 m.mem.length cm2), .int .i64 m.save, .bool m.lets, .bool m.waits, .int .i64 m.halt, (.slice Am3 m.ins.length cm3), (.slice Am4 m.outs.length cm4), .int .i64 m.count] 51) (by simp) #[.slice none 0 0, .int .i64 0, .slice none 0 0, .int .i64 0, .bool false, .bool false, .int .i64 0, .slice none 0 0, .slice none 0 0, .int .i64 0] 51); simpa using this)
    have hFm_0 : ∀ oo, (((w.alloc (Obj.cells #[(.slice Am1 m.regs.length cm1), .int .i64 m.pc, (.slice Am2 m.mem.length cm2), .int .i64 m.save, .bool m.lets, .bool m.waits, .int .i64 m.halt, (.slice Am3 m.ins.length cm3), (.slice Am4 m.outs.length cm4), .int .i64 m.count] 51)).alloc (Obj.cells #[.slice none 0 0, .int .i64 0, .slice none 0 0, .int .i64 0, .bool false, .bool false, .int .i64 0, .slice none 0 0, .slice none 0 0, .int .i64 0] 51))).frozen? ⟨w.heap.size, oo, none⟩ = false := fun oo => by simp
    have hBres_0 : Bx ((w.alloc (Obj.cells #[(.slice Am1 m.regs.length cm1), .int .i64 m.pc, (.slice Am2 m.mem.length cm2), .int .i64 m.save, .bool m.lets, .bool m.waits, .int .i64 m.halt, (.slice Am3 m.ins.length cm3), (.slice Am4 m.outs.length cm4), .int .i64 m.count] 51)).alloc (Obj.cells #[.slice none 0 0, .int .i64 0, .slice none 0 0, .int .i64 0, .bool false, .bool false, .int .i64 0, .slice none 0 0, .slice none 0 0, .int .i64 0] 51)) (w.heap.size + 1) [.slice none 0 0, .int .i64 0, .slice none 0 0, .int .i64 0, .bool false, .bool false, .int .i64 0, .slice none 0 0, .slice none 0 0, .int .i64 0] := (by have := (Bx.new (w.alloc (Obj.cells #[(.slice Am1 m.regs.length cm1), .int .i64 m.pc, (.slice Am2 m.mem.length cm2), .int .i64 m.save, .bool m.lets, .bool m.waits, .int .i64 m.halt, (.slice Am3 m.ins.length cm3), (.slice Am4 m.outs.length cm4), .int .i64 m.count] 51)) #[.slice none 0 0, .int .i64 0, .slice none 0 0, .int .i64 0, .bool false, .bool false, .int .i64 0, .slice none 0 0, .slice none 0 0, .int .i64 0] 51); simpa using this)
    have hFres_0 : ∀ oo, (((w.alloc (Obj.cells #[(.slice Am1 m.regs.length cm1), .int .i64 m.pc, (.slice Am2 m.mem.length cm2), .int .i64 m.save, .bool m.lets, .bool m.waits, .int .i64 m.halt, (.slice Am3 m.ins.length cm3), (.slice Am4 m.outs.length cm4), .int .i64 m.count] 51)).alloc (Obj.cells #[.slice none 0 0, .int .i64 0, .slice none 0 0, .int .i64 0, .bool false, .bool false, .int .i64 0, .slice none 0 0, .slice none 0 0, .int .i64 0] 51))).frozen? ⟨w.heap.size + 1, oo, none⟩ = false := fun oo => by simp
    generalize ((w.alloc (Obj.cells #[(.slice Am1 m.regs.length cm1), .int .i64 m.pc, (.slice Am2 m.mem.length cm2), .int .i64 m.save, .bool m.lets, .bool m.waits, .int .i64 m.halt, (.slice Am3 m.ins.length cm3), (.slice Am4 m.outs.length cm4), .int .i64 m.count] 51)).alloc (Obj.cells #[.slice none 0 0, .int .i64 0, .slice none 0 0, .int .i64 0, .bool false, .bool false, .int .i64 0, .slice none 0 0, .slice none 0 0, .int .i64 0] 51)) = w0 at *
    have ym : w.heap.size < w0.heap.size := by omega
    have xm0 := hBm_0 0 _ rfl
    have xm1 := hBm_0 1 _ rfl
    have xm2 := hBm_0 2 _ rfl
    have xm3 := hBm_0 3 _ rfl
    have xm4 := hBm_0 4 _ rfl
    have xm5 := hBm_0 5 _ rfl
    have xm6 := hBm_0 6 _ rfl
    have xm7 := hBm_0 7 _ rfl
    have xm8 := hBm_0 8 _ rfl
    have xm9 := hBm_0 9 _ rfl
    have fm := hFm_0
    have yres : w.heap.size + 1 < w0.heap.size := by omega
    have xres0 := hBres_0 0 _ rfl
    have xres1 := hBres_0 1 _ rfl
    have xres2 := hBres_0 2 _ rfl
    have xres3 := hBres_0 3 _ rfl
    have xres4 := hBres_0 4 _ rfl
    have xres5 := hBres_0 5 _ rfl
    have xres6 := hBres_0 6 _ rfl
    have xres7 := hBres_0 7 _ rfl
    have xres8 := hBres_0 8 _ rfl
    have xres9 := hBres_0 9 _ rfl
    have fres := hFres_0
    go_wp2_with fail
    refine (specMchOk_any m _ _ _ _ _ (hm1.ext he0) (hm2.ext he0) (hm3.ext he0) (hm4.ext he0)).mono ?_
    rintro e w1 ⟨rfl, hy⟩
    simp only [q0]
    clear xm0 xm1 xm2 xm3 xm4 xm5 xm6 xm7 xm8 xm9 ym
    clear fm
    clear xres0 xres1 xres2 xres3 xres4 xres5 xres6 xres7 xres8 xres9 yres
    clear fres
    have hs1 := hy.size
    try simp at hs1
    have he1 : Ext w w1 := Ext.trans (Ext.hold he0) hy
    have hBm_1 : Bx w1 (w.heap.size) [(.slice Am1 m.regs.length cm1), .int .i64 m.pc, (.slice Am2 m.mem.length cm2), .int .i64 m.save, .bool m.lets, .bool m.waits, .int .i64 m.halt, (.slice Am3 m.ins.length cm3), (.slice Am4 m.outs.length cm4), .int .i64 m.count] := hy.bx (Bx.hold hBm_0) (by first | omega | (simp; done) | (simp; omega))
    have hFm_1 : ∀ oo, w1.frozen? ⟨w.heap.size, oo, none⟩ = false := fun oo => (hy.frozen (by first | omega | (simp; done) | (simp; omega))).trans ((fz_hold hFm_0) oo)
    have hBres_1 : Bx w1 (w.heap.size + 1) [.slice none 0 0, .int .i64 0, .slice none 0 0, .int .i64 0, .bool false, .bool false, .int .i64 0, .slice none 0 0, .slice none 0 0, .int .i64 0] := hy.bx (Bx.hold hBres_0) (by first | omega | (simp; done) | (simp; omega))
    have hFres_1 : ∀ oo, w1.frozen? ⟨w.heap.size + 1, oo, none⟩ = false := fun oo => (hy.frozen (by first | omega | (simp; done) | (simp; omega))).trans ((fz_hold hFres_0) oo)
    try clear hBm_0 hFm_0 hBres_0 hFres_0
    clear hy
    have yres : w.heap.size + 1 < w1.heap.size := by omega
    have xres0 := hBres_1 0 _ rfl
    have xres1 := hBres_1 1 _ rfl
    have xres2 := hBres_1 2 _ rfl
    have xres3 := hBres_1 3 _ rfl
    have xres4 := hBres_1 4 _ rfl
    have xres5 := hBres_1 5 _ rfl
    have xres6 := hBres_1 6 _ rfl
    have xres7 := hBres_1 7 _ rfl
    have xres8 := hBres_1 8 _ rfl
    have xres9 := hBres_1 9 _ rfl
    have fres := hFres_1
    go_wp2
    refine bodyPost_ret (v := .agg #[.slice none 0 0, .int .i64 0, .slice none 0 0, .int .i64 0, .bool false, .bool false, .int .i64 0, .slice none 0 0, .slice none 0 0, .int .i64 0]) (by simp [results, Tryd.results101, go_sem, xres0, xres1, xres2, xres3, xres4, xres5, xres6, xres7, xres8, xres9]) rfl ?_
    unfold RunPostC
    rw [HV.out]
    exact ⟨.slice none 0 0, .slice none 0 0, .slice none 0 0, .slice none 0 0, rfl, Own4C.nil _ _ _, Ext.hold he1⟩
  have q1 : decide (400 < n) = false := decide_eq_false hn4c
  have hn400 : n ≤ 400 := by omega
  have HR := hide (mRun_iter (irqs := irqs) q0 hn400)
  have hk := mOk_iff.1 q0
  have H0 := hide q0
  go_enter Tryd.func101, Tryd.ntmps101
  go_upto_region 1 with fail
  have he0 : Ext w ((w.alloc (Obj.cells #[(.slice Am1 m.regs.length cm1), .int .i64 m.pc, (.slice Am2 m.mem.length cm2), .int .i64 m.save, .bool m.lets, .bool m.waits, .int .i64 m.halt, (.slice Am3 m.ins.length cm3), (.slice Am4 m.outs.length cm4), .int .i64 m.count] 51)).alloc (Obj.cells #[.slice none 0 0, .int .i64 0, .slice none 0 0, .int .i64 0, .bool false, .bool false, .int .i64 0, .slice none 0 0, .slice none 0 0, .int .i64 0] 51)) := (Ext.auto)
  have hs0 : w.heap.size + 2 ≤ (((w.alloc (Obj.cells #[(.slice Am1 m.regs.length cm1), .int .i64 m.pc, (.slice Am2 m.mem.length cm2), .int .i64 m.save, .bool m.lets, .bool m.waits, .int .i64 m.halt, (.slice Am3 m.ins.length cm3), (.slice Am4 m.outs.length cm4), .int .i64 m.count] 51)).alloc (Obj.cells #[.slice none 0 0, .int .i64 0, .slice none 0 0, .int .i64 0, .bool false, .bool false, .int .i64 0, .slice none 0 0, .slice none 0 0, .int .i64 0] 51))).heap.size := by simp
  have hq0 := hide (show (((w.alloc (Obj.cells #[(.slice Am1 m.regs.length cm1), .int .i64 m.pc, (.slice Am2 m.mem.length cm2), .int .i64 m.save, .bool m.lets, .bool m.waits, .int .i64 m.halt, (.slice Am3 m.ins.length cm3), (.slice Am4 m.outs.length cm4), .int .i64 m.count] 51)).alloc (Obj.cells #[.slice none 0 0, .int .i64 0, .slice none 0 0, .int .i64 0, .bool false, .bool false, .int .i64 0, .slice none 0 0, .slice none 0 0, .int .i64 0] 51))).heap.size = w.heap.size + 2 by simp)
  have hBm_0 : Bx ((w.alloc (Obj.cells #[(.slice Am1 m.regs.length cm1), .int .i64 m.pc, (.slice Am2 m.mem.length cm2), .int .i64 m.save, .bool m.lets, .bool m.waits, .int .i64 m.halt, (.slice Am3 m.ins.length cm3), (.slice Am4 m.outs.length cm4), .int .i64 m.count] 51)).alloc (Obj.cells #[.slice none 0 0, .int .i64 0, .slice none 0 0, .int .i64 0, .bool false, .bool false, .int .i64 0, .slice none 0 0, .slice none 0 0, .int .i64 0] 51)) (w.heap.size) [(.slice Am1 m.regs.length cm1), .int .i64 m.pc, (.slice Am2 m.mem.length cm2), .int .i64 m.save, .bool m.lets, .bool m.waits, .int .i64 m.halt, (.slice Am3 m.ins.length cm3), (.slice Am4 m.outs.length cm4), .int .i64 m.count] := (by have := (Bx.alloc (Bx.new w #[(.slice Am1 m.regs.length cm1), .int .i64 m.pc, (.slice Am2 m.mem.length cm2), .int .i64 m.save, .bool m.lets, .bool m.waits, .int .i64 m.halt, (.slice Am3 m.ins.length cm3), (.slice Am4 m.outs.length cm4), .int .i64 m.count] 51) (by simp) #[.slice none 0 0, .int .i64 0, .slice none 0 0, .int .i64 0, .bool false, .bool false, .int .i64 0, .slice none 0 0, .slice none 0 0, .int .i64 0] 51); simpa using this)
  have hFm_0 : ∀ oo, (((w.alloc (Obj.cells #[(.slice Am1 m.regs.length cm1), .int .i64 m.pc, (.slice Am2 m.mem.length cm2), .int .i64 m.save, .bool m.lets, .bool m.waits, .int .i64 m.halt, (.slice Am3 m.ins.length cm3), (.slice Am4 m.outs.length cm4), .int .i64 m.count] 51)).alloc (Obj.cells #[.slice none 0 0, .int .i64 0, .slice none 0 0, .int .i64 0, .bool false, .bool false, .int .i64 0, .slice none 0 0, .slice none 0 0, .int .i64 0] 51))).frozen? ⟨w.heap.size, oo, none⟩ = false := fun oo => by simp
  have hBres_0 : Bx ((w.alloc (Obj.cells #[(.slice Am1 m.regs.length cm1), .int .i64 m.pc, (.slice Am2 m.mem.length cm2), .int .i64 m.save, .bool m.lets, .bool m.waits, .int .i64 m.halt, (.slice Am3 m.ins.length cm3), (.slice Am4 m.outs.length cm4), .int .i64 m.count] 51)).alloc (Obj.cells #[.slice none 0 0, .int .i64 0, .slice none 0 0, .int .i64 0, .bool false, .bool false, .int .i64 0, .slice none 0 0, .slice none 0 0, .int .i64 0] 51)) (w.heap.size + 1) [.slice none 0 0, .int .i64 0, .slice none 0 0, .int .i64 0, .bool false, .bool false, .int .i64 0, .slice none 0 0, .slice none 0 0, .int .i64 0] := (by have := (Bx.new (w.alloc (Obj.cells #[(.slice Am1 m.regs.length cm1), .int .i64 m.pc, (.slice Am2 m.mem.length cm2), .int .i64 m.save, .bool m.lets, .bool m.waits, .int .i64 m.halt, (.slice Am3 m.ins.length cm3), (.slice Am4 m.outs.length cm4), .int .i64 m.count] 51)) #[.slice none 0 0, .int .i64 0, .slice none 0 0, .int .i64 0, .bool false, .bool false, .int .i64 0, .slice none 0 0, .slice none 0 0, .int .i64 0] 51); simpa using this)
  have hFres_0 : ∀ oo, (((w.alloc (Obj.cells #[(.slice Am1 m.regs.length cm1), .int .i64 m.pc, (.slice Am2 m.mem.length cm2), .int .i64 m.save, .bool m.lets, .bool m.waits, .int .i64 m.halt, (.slice Am3 m.ins.length cm3), (.slice Am4 m.outs.length cm4), .int .i64 m.count] 51)).alloc (Obj.cells #[.slice none 0 0, .int .i64 0, .slice none 0 0, .int .i64 0, .bool false, .bool false, .int .i64 0, .slice none 0 0, .slice none 0 0, .int .i64 0] 51))).frozen? ⟨w.heap.size + 1, oo, none⟩ = false := fun oo => by simp
  generalize ((w.alloc (Obj.cells #[(.slice Am1 m.regs.length cm1), .int .i64 m.pc, (.slice Am2 m.mem.length cm2), .int .i64 m.save, .bool m.lets, .bool m.waits, .int .i64 m.halt, (.slice Am3 m.ins.length cm3), (.slice Am4 m.outs.length cm4), .int .i64 m.count] 51)).alloc (Obj.cells #[.slice none 0 0, .int .i64 0, .slice none 0 0, .int .i64 0, .bool false, .bool false, .int .i64 0, .slice none 0 0, .slice none 0 0, .int .i64 0] 51)) = w0 at *
  have ym : w.heap.size < w0.heap.size := by omega
  have xm0 := hBm_0 0 _ rfl
  have xm1 := hBm_0 1 _ rfl
  have xm2 := hBm_0 2 _ rfl
  have xm3 := hBm_0 3 _ rfl
  have xm4 := hBm_0 4 _ rfl
  have xm5 := hBm_0 5 _ rfl
  have xm6 := hBm_0 6 _ rfl
  have xm7 := hBm_0 7 _ rfl
  have xm8 := hBm_0 8 _ rfl
  have xm9 := hBm_0 9 _ rfl
  have fm := hFm_0
  have yres : w.heap.size + 1 < w0.heap.size := by omega
  have xres0 := hBres_0 0 _ rfl
  have xres1 := hBres_0 1 _ rfl
  have xres2 := hBres_0 2 _ rfl
  have xres3 := hBres_0 3 _ rfl
  have xres4 := hBres_0 4 _ rfl
  have xres5 := hBres_0 5 _ rfl
  have xres6 := hBres_0 6 _ rfl
  have xres7 := hBres_0 7 _ rfl
  have xres8 := hBres_0 8 _ rfl
  have xres9 := hBres_0 9 _ rfl
  have fres := hFres_0
  go_wp2_with fail
  refine (specMchOk_any m _ _ _ _ _ (hm1.ext he0) (hm2.ext he0) (hm3.ext he0) (hm4.ext he0)).mono ?_
  rintro e w1 ⟨rfl, hy⟩
  simp only [q0]
  clear q0
  clear xm0 xm1 xm2 xm3 xm4 xm5 xm6 xm7 xm8 xm9 ym
  clear fm
  clear xres0 xres1 xres2 xres3 xres4 xres5 xres6 xres7 xres8 xres9 yres
  clear fres
  have hs1 := hy.size
  try simp at hs1
  have he1 : Ext w w1 := Ext.trans (Ext.hold he0) hy
  have hBm_1 : Bx w1 (w.heap.size) [(.slice Am1 m.regs.length cm1), .int .i64 m.pc, (.slice Am2 m.mem.length cm2), .int .i64 m.save, .bool m.lets, .bool m.waits, .int .i64 m.halt, (.slice Am3 m.ins.length cm3), (.slice Am4 m.outs.length cm4), .int .i64 m.count] := hy.bx (Bx.hold hBm_0) (by first | omega | (simp; done) | (simp; omega))
  have hFm_1 : ∀ oo, w1.frozen? ⟨w.heap.size, oo, none⟩ = false := fun oo => (hy.frozen (by first | omega | (simp; done) | (simp; omega))).trans ((fz_hold hFm_0) oo)
  have hBres_1 : Bx w1 (w.heap.size + 1) [.slice none 0 0, .int .i64 0, .slice none 0 0, .int .i64 0, .bool false, .bool false, .int .i64 0, .slice none 0 0, .slice none 0 0, .int .i64 0] := hy.bx (Bx.hold hBres_0) (by first | omega | (simp; done) | (simp; omega))
  have hFres_1 : ∀ oo, w1.frozen? ⟨w.heap.size + 1, oo, none⟩ = false := fun oo => (hy.frozen (by first | omega | (simp; done) | (simp; omega))).trans ((fz_hold hFres_0) oo)
  try clear hBm_0 hFm_0 hBres_0 hFres_0
  clear hy
  have ym : w.heap.size < w1.heap.size := by omega
  have xm0 := hBm_1 0 _ rfl
  have xm1 := hBm_1 1 _ rfl
  have xm2 := hBm_1 2 _ rfl
  have xm3 := hBm_1 3 _ rfl
  have xm4 := hBm_1 4 _ rfl
  have xm5 := hBm_1 5 _ rfl
  have xm6 := hBm_1 6 _ rfl
  have xm7 := hBm_1 7 _ rfl
  have xm8 := hBm_1 8 _ rfl
  have xm9 := hBm_1 9 _ rfl
  have fm := hFm_1
  have yres : w.heap.size + 1 < w1.heap.size := by omega
  have xres0 := hBres_1 0 _ rfl
  have xres1 := hBres_1 1 _ rfl
  have xres2 := hBres_1 2 _ rfl
  have xres3 := hBres_1 3 _ rfl
  have xres4 := hBres_1 4 _ rfl
  have xres5 := hBres_1 5 _ rfl
  have xres6 := hBres_1 6 _ rfl
  have xres7 := hBres_1 7 _ rfl
  have xres8 := hBres_1 8 _ rfl
  have xres9 := hBres_1 9 _ rfl
  have fres := hFres_1
  go_wp2_with fail
  refine (l3CopyC_any m _ _ _ _ _ (hm1.ext he1) (hm2.ext he1) (hm3.ext he1) (hm4.ext he1) hn1 hn2 hn3 hn4).mono ?_
  rintro e w2 ⟨r1, r2, r3, r4, rfl, hOw, hy⟩
  obtain ⟨B1, B2, B3, B4, d1, d2, d3, d4, rfl, rfl, rfl, rfl⟩ := hOw.form
  clear xm0 xm1 xm2 xm3 xm4 xm5 xm6 xm7 xm8 xm9 ym
  clear fm
  clear xres0 xres1 xres2 xres3 xres4 xres5 xres6 xres7 xres8 xres9 yres
  clear fres
  have hs2 := hy.size
  try simp at hs2
  have he2 : Ext w w2 := Ext.trans (Ext.hold he1) hy
  have hBm_2 : Bx w2 (w.heap.size) [(.slice Am1 m.regs.length cm1), .int .i64 m.pc, (.slice Am2 m.mem.length cm2), .int .i64 m.save, .bool m.lets, .bool m.waits, .int .i64 m.halt, (.slice Am3 m.ins.length cm3), (.slice Am4 m.outs.length cm4), .int .i64 m.count] := hy.bx (Bx.hold hBm_1) (by first | omega | (simp; done) | (simp; omega))
  have hFm_2 : ∀ oo, w2.frozen? ⟨w.heap.size, oo, none⟩ = false := fun oo => (hy.frozen (by first | omega | (simp; done) | (simp; omega))).trans ((fz_hold hFm_1) oo)
  have hBres_2 : Bx w2 (w.heap.size + 1) [.slice none 0 0, .int .i64 0, .slice none 0 0, .int .i64 0, .bool false, .bool false, .int .i64 0, .slice none 0 0, .slice none 0 0, .int .i64 0] := hy.bx (Bx.hold hBres_1) (by first | omega | (simp; done) | (simp; omega))
  have hFres_2 : ∀ oo, w2.frozen? ⟨w.heap.size + 1, oo, none⟩ = false := fun oo => (hy.frozen (by first | omega | (simp; done) | (simp; omega))).trans ((fz_hold hFres_1) oo)
  try clear hBm_1 hFm_1 hBres_1 hFres_1
  clear hy
  have ym : w.heap.size < w2.heap.size := by omega
  have xm0 := hBm_2 0 _ rfl
  have xm1 := hBm_2 1 _ rfl
  have xm2 := hBm_2 2 _ rfl
  have xm3 := hBm_2 3 _ rfl
  have xm4 := hBm_2 4 _ rfl
  have xm5 := hBm_2 5 _ rfl
  have xm6 := hBm_2 6 _ rfl
  have xm7 := hBm_2 7 _ rfl
  have xm8 := hBm_2 8 _ rfl
  have xm9 := hBm_2 9 _ rfl
  have fm := hFm_2
  have yres : w.heap.size + 1 < w2.heap.size := by omega
  have xres0 := hBres_2 0 _ rfl
  have xres1 := hBres_2 1 _ rfl
  have xres2 := hBres_2 2 _ rfl
  have xres3 := hBres_2 3 _ rfl
  have xres4 := hBres_2 4 _ rfl
  have xres5 := hBres_2 5 _ rfl
  have xres6 := hBres_2 6 _ rfl
  have xres7 := hBres_2 7 _ rfl
  have xres8 := hBres_2 8 _ rfl
  have xres9 := hBres_2 9 _ rfl
  have fres := hFres_2
  go_upto_region 4 with fail
  clear xm0 xm1 xm2 xm3 xm4 xm5 xm6 xm7 xm8 xm9 ym
  clear fm
  clear xres0 xres1 xres2 xres3 xres4 xres5 xres6 xres7 xres8 xres9 yres
  clear fres
  have he3 : Ext w (w2.alloc (Obj.cells #[(.slice B1 m.regs.length d1), .int .i64 m.pc, (.slice B2 m.mem.length d2), .int .i64 m.save, .bool m.lets, .bool m.waits, .int .i64 m.halt, (.slice B3 m.ins.length d3), (.slice B4 m.outs.length d4), .int .i64 m.count] 51)) := Ext.hold he2
  have hs3 : w2.heap.size + 1 ≤ ((w2.alloc (Obj.cells #[(.slice B1 m.regs.length d1), .int .i64 m.pc, (.slice B2 m.mem.length d2), .int .i64 m.save, .bool m.lets, .bool m.waits, .int .i64 m.halt, (.slice B3 m.ins.length d3), (.slice B4 m.outs.length d4), .int .i64 m.count] 51))).heap.size := by simp
  have hBm_3 : Bx (w2.alloc (Obj.cells #[(.slice B1 m.regs.length d1), .int .i64 m.pc, (.slice B2 m.mem.length d2), .int .i64 m.save, .bool m.lets, .bool m.waits, .int .i64 m.halt, (.slice B3 m.ins.length d3), (.slice B4 m.outs.length d4), .int .i64 m.count] 51)) (w.heap.size) [(.slice Am1 m.regs.length cm1), .int .i64 m.pc, (.slice Am2 m.mem.length cm2), .int .i64 m.save, .bool m.lets, .bool m.waits, .int .i64 m.halt, (.slice Am3 m.ins.length cm3), (.slice Am4 m.outs.length cm4), .int .i64 m.count] := Bx.hold hBm_2
  have hFm_3 : ∀ oo, (w2.alloc (Obj.cells #[(.slice B1 m.regs.length d1), .int .i64 m.pc, (.slice B2 m.mem.length d2), .int .i64 m.save, .bool m.lets, .bool m.waits, .int .i64 m.halt, (.slice B3 m.ins.length d3), (.slice B4 m.outs.length d4), .int .i64 m.count] 51)).frozen? ⟨w.heap.size, oo, none⟩ = false := fz_hold hFm_2
  have hBres_3 : Bx (w2.alloc (Obj.cells #[(.slice B1 m.regs.length d1), .int .i64 m.pc, (.slice B2 m.mem.length d2), .int .i64 m.save, .bool m.lets, .bool m.waits, .int .i64 m.halt, (.slice B3 m.ins.length d3), (.slice B4 m.outs.length d4), .int .i64 m.count] 51)) (w.heap.size + 1) [.slice none 0 0, .int .i64 0, .slice none 0 0, .int .i64 0, .bool false, .bool false, .int .i64 0, .slice none 0 0, .slice none 0 0, .int .i64 0] := Bx.hold hBres_2
  have hFres_3 : ∀ oo, (w2.alloc (Obj.cells #[(.slice B1 m.regs.length d1), .int .i64 m.pc, (.slice B2 m.mem.length d2), .int .i64 m.save, .bool m.lets, .bool m.waits, .int .i64 m.halt, (.slice B3 m.ins.length d3), (.slice B4 m.outs.length d4), .int .i64 m.count] 51)).frozen? ⟨w.heap.size + 1, oo, none⟩ = false := fz_hold hFres_2
  have hBx_3 : Bx (w2.alloc (Obj.cells #[(.slice B1 m.regs.length d1), .int .i64 m.pc, (.slice B2 m.mem.length d2), .int .i64 m.save, .bool m.lets, .bool m.waits, .int .i64 m.halt, (.slice B3 m.ins.length d3), (.slice B4 m.outs.length d4), .int .i64 m.count] 51)) (w2.heap.size) [(.slice B1 m.regs.length d1), .int .i64 m.pc, (.slice B2 m.mem.length d2), .int .i64 m.save, .bool m.lets, .bool m.waits, .int .i64 m.halt, (.slice B3 m.ins.length d3), (.slice B4 m.outs.length d4), .int .i64 m.count] := Bx.new w2 #[(.slice B1 m.regs.length d1), .int .i64 m.pc, (.slice B2 m.mem.length d2), .int .i64 m.save, .bool m.lets, .bool m.waits, .int .i64 m.halt, (.slice B3 m.ins.length d3), (.slice B4 m.outs.length d4), .int .i64 m.count] 51
  have hFx_3 : ∀ oo, (w2.alloc (Obj.cells #[(.slice B1 m.regs.length d1), .int .i64 m.pc, (.slice B2 m.mem.length d2), .int .i64 m.save, .bool m.lets, .bool m.waits, .int .i64 m.halt, (.slice B3 m.ins.length d3), (.slice B4 m.outs.length d4), .int .i64 m.count] 51)).frozen? ⟨w2.heap.size, oo, none⟩ = false := fz_new w2 #[(.slice B1 m.regs.length d1), .int .i64 m.pc, (.slice B2 m.mem.length d2), .int .i64 m.save, .bool m.lets, .bool m.waits, .int .i64 m.halt, (.slice B3 m.ins.length d3), (.slice B4 m.outs.length d4), .int .i64 m.count] 51 rfl
  have hOx := hOw.addX (show Ext w2 (w2.alloc (Obj.cells #[(.slice B1 m.regs.length d1), .int .i64 m.pc, (.slice B2 m.mem.length d2), .int .i64 m.save, .bool m.lets, .bool m.waits, .int .i64 m.halt, (.slice B3 m.ins.length d3), (.slice B4 m.outs.length d4), .int .i64 m.count] 51)) from Ext.auto) (Nat.le_refl _)
  generalize (w2.alloc (Obj.cells #[(.slice B1 m.regs.length d1), .int .i64 m.pc, (.slice B2 m.mem.length d2), .int .i64 m.save, .bool m.lets, .bool m.waits, .int .i64 m.halt, (.slice B3 m.ins.length d3), (.slice B4 m.outs.length d4), .int .i64 m.count] 51)) = w3 at *
  try clear hBm_2 hFm_2 hBres_2 hFres_2
  clear hOw hm1 hm2 hm3 hm4
  go_wp2
  go_loopw [8] (fun kk wz => ∃ (k : Nat) (y : MchMach) (B1 B2 B3 B4 : Option Addr) (d1 d2 d3 d4 : Nat), kk = .int .i64 (k : Int) ∧ Hid (mRun m irqs n = mIter irqs (n.toNat - k) y) ∧ mchOkB y = true ∧ y.outs.length ≤ 4190000 + k ∧ y.ins.length ≤ 4194304 ∧ k ≤ n.toNat ∧ Own4C 3 [w2.heap.size] w1.heap.size wz (.slice B1 y.regs.length d1) (.slice B2 y.mem.length d2) (.slice B3 y.ins.length d3) (.slice B4 y.outs.length d4) y ∧ Ext w wz ∧ w3.heap.size ≤ wz.heap.size ∧ Bx wz (w2.heap.size) [(.slice B1 y.regs.length d1), .int .i64 y.pc, (.slice B2 y.mem.length d2), .int .i64 y.save, .bool y.lets, .bool y.waits, .int .i64 y.halt, (.slice B3 y.ins.length d3), (.slice B4 y.outs.length d4), .int .i64 y.count] ∧ (∀ oo, wz.frozen? ⟨w2.heap.size, oo, none⟩ = false) ∧ Bx wz (w.heap.size + 1) [.slice none 0 0, .int .i64 0, .slice none 0 0, .int .i64 0, .bool false, .bool false, .int .i64 0, .slice none 0 0, .slice none 0 0, .int .i64 0] ∧ (∀ oo, wz.frozen? ⟨w.heap.size + 1, oo, none⟩ = false)) (fun kk _ => n.toNat - (intOf kk).toNat)
  case atStart => exact ⟨0, m, B1, B2, B3, B4, d1, d2, d3, d4, rfl, hide (by rw [HR.out]; rfl), H0.out, by omega, hn3, by omega, hOx, he3, Nat.le_refl _, hBx_3, hFx_3, hBres_3, hFres_3⟩
  case round =>
    obtain ⟨w4, hwr⟩ : ∃ w4 : World, w4 = wr := ⟨_, rfl⟩
    subst hwr
    clear hOx hBx_3 hFx_3 hBres_3 hFres_3 H0
    obtain ⟨k, y, B1y, B2y, B3y, B4y, d1y, d2y, d3y, d4y, rfl, HI, hok, hyo, hyi, hkn, hOw, he4, hs4, hBx_4, hFx_4, hBres_4, hFres_4⟩ := hrel
    have hky := mOk_iff.1 hok
    have HOK := hide hok
    clear hok
    by_cases hlt : (k : Int) < n
    rotate_left
    · 
      have q2 : decide ((k : Int) < n) = false := decide_eq_false hlt
      have HV := hide (mIter_end HI.out (by omega))
      try clear h0
      have yx : w2.heap.size < w4.heap.size := by omega
      have xx0 := hBx_4 0 _ rfl
      have xx1 := hBx_4 1 _ rfl
      have xx2 := hBx_4 2 _ rfl
      have xx3 := hBx_4 3 _ rfl
      have xx4 := hBx_4 4 _ rfl
      have xx5 := hBx_4 5 _ rfl
      have xx6 := hBx_4 6 _ rfl
      have xx7 := hBx_4 7 _ rfl
      have xx8 := hBx_4 8 _ rfl
      have xx9 := hBx_4 9 _ rfl
      have fx := hFx_4
      go_upto_region 8 with fail
      have yres : w.heap.size + 1 < w4.heap.size := by omega
      have xres0 := hBres_4 0 _ rfl
      have xres1 := hBres_4 1 _ rfl
      have xres2 := hBres_4 2 _ rfl
      have xres3 := hBres_4 3 _ rfl
      have xres4 := hBres_4 4 _ rfl
      have xres5 := hBres_4 5 _ rfl
      have xres6 := hBres_4 6 _ rfl
      have xres7 := hBres_4 7 _ rfl
      have xres8 := hBres_4 8 _ rfl
      have xres9 := hBres_4 9 _ rfl
      have fres := hFres_4
      go_wp2
      refine bodyPost_ret (v := .agg #[(.slice B1y y.regs.length d1y), .int .i64 y.pc, (.slice B2y y.mem.length d2y), .int .i64 y.save, .bool y.lets, .bool y.waits, .int .i64 y.halt, (.slice B3y y.ins.length d3y), (.slice B4y y.outs.length d4y), .int .i64 y.count]) (by simp [results, Tryd.results101, go_sem, xres0, xres1, xres2, xres3, xres4, xres5, xres6, xres7, xres8, xres9]) rfl ?_
      unfold RunPostC
      rw [HV.out]
      refine ⟨_, _, _, _, rfl, ?_, Ext.hold he4⟩
      refine Own4C.reX (X := [w2.heap.size]) (lo := w1.heap.size) ?_ (by first | omega | (simp; omega)) (by simp)
      repeat (refine Own4C.low ?_ (by first | (show _ < _; omega) | (simp; omega)) _)
      exact hOw
    by_cases h0 : y.halt = 0
    rotate_left
    · 
      have q2 : decide ((k : Int) < n) = true := decide_eq_true hlt
      have q3 : (y.halt == 0) = false := by simp [h0]
      have HV := hide (mIter_halt HI.out (by rw [← Bool.not_eq_true, mGoes_iff]; exact fun q => h0 q.1))
      try clear h0
      have yx : w2.heap.size < w4.heap.size := by omega
      have xx0 := hBx_4 0 _ rfl
      have xx1 := hBx_4 1 _ rfl
      have xx2 := hBx_4 2 _ rfl
      have xx3 := hBx_4 3 _ rfl
      have xx4 := hBx_4 4 _ rfl
      have xx5 := hBx_4 5 _ rfl
      have xx6 := hBx_4 6 _ rfl
      have xx7 := hBx_4 7 _ rfl
      have xx8 := hBx_4 8 _ rfl
      have xx9 := hBx_4 9 _ rfl
      have fx := hFx_4
      go_upto_region 8 with fail
      have yres : w.heap.size + 1 < w4.heap.size := by omega
      have xres0 := hBres_4 0 _ rfl
      have xres1 := hBres_4 1 _ rfl
      have xres2 := hBres_4 2 _ rfl
      have xres3 := hBres_4 3 _ rfl
      have xres4 := hBres_4 4 _ rfl
      have xres5 := hBres_4 5 _ rfl
      have xres6 := hBres_4 6 _ rfl
      have xres7 := hBres_4 7 _ rfl
      have xres8 := hBres_4 8 _ rfl
      have xres9 := hBres_4 9 _ rfl
      have fres := hFres_4
      go_wp2
      refine bodyPost_ret (v := .agg #[(.slice B1y y.regs.length d1y), .int .i64 y.pc, (.slice B2y y.mem.length d2y), .int .i64 y.save, .bool y.lets, .bool y.waits, .int .i64 y.halt, (.slice B3y y.ins.length d3y), (.slice B4y y.outs.length d4y), .int .i64 y.count]) (by simp [results, Tryd.results101, go_sem, xres0, xres1, xres2, xres3, xres4, xres5, xres6, xres7, xres8, xres9]) rfl ?_
      unfold RunPostC
      rw [HV.out]
      refine ⟨_, _, _, _, rfl, ?_, Ext.hold he4⟩
      refine Own4C.reX (X := [w2.heap.size]) (lo := w1.heap.size) ?_ (by first | omega | (simp; omega)) (by simp)
      repeat (refine Own4C.low ?_ (by first | (show _ < _; omega) | (simp; omega)) _)
      exact hOw
    by_cases h1 : y.count < 1000000
    rotate_left
    · 
      have q2 : decide ((k : Int) < n) = true := decide_eq_true hlt
      have q3 : (y.halt == 0) = true := by simp [h0]
      have q4 : decide (y.count < 1000000) = false := decide_eq_false h1
      have HV := hide (mIter_halt HI.out (by rw [← Bool.not_eq_true, mGoes_iff]; exact fun q => h1 q.2))
      try clear h0
      have yx : w2.heap.size < w4.heap.size := by omega
      have xx0 := hBx_4 0 _ rfl
      have xx1 := hBx_4 1 _ rfl
      have xx2 := hBx_4 2 _ rfl
      have xx3 := hBx_4 3 _ rfl
      have xx4 := hBx_4 4 _ rfl
      have xx5 := hBx_4 5 _ rfl
      have xx6 := hBx_4 6 _ rfl
      have xx7 := hBx_4 7 _ rfl
      have xx8 := hBx_4 8 _ rfl
      have xx9 := hBx_4 9 _ rfl
      have fx := hFx_4
      go_upto_region 8 with fail
      have yres : w.heap.size + 1 < w4.heap.size := by omega
      have xres0 := hBres_4 0 _ rfl
      have xres1 := hBres_4 1 _ rfl
      have xres2 := hBres_4 2 _ rfl
      have xres3 := hBres_4 3 _ rfl
      have xres4 := hBres_4 4 _ rfl
      have xres5 := hBres_4 5 _ rfl
      have xres6 := hBres_4 6 _ rfl
      have xres7 := hBres_4 7 _ rfl
      have xres8 := hBres_4 8 _ rfl
      have xres9 := hBres_4 9 _ rfl
      have fres := hFres_4
      go_wp2
      refine bodyPost_ret (v := .agg #[(.slice B1y y.regs.length d1y), .int .i64 y.pc, (.slice B2y y.mem.length d2y), .int .i64 y.save, .bool y.lets, .bool y.waits, .int .i64 y.halt, (.slice B3y y.ins.length d3y), (.slice B4y y.outs.length d4y), .int .i64 y.count]) (by simp [results, Tryd.results101, go_sem, xres0, xres1, xres2, xres3, xres4, xres5, xres6, xres7, xres8, xres9]) rfl ?_
      unfold RunPostC
      rw [HV.out]
      refine ⟨_, _, _, _, rfl, ?_, Ext.hold he4⟩
      refine Own4C.reX (X := [w2.heap.size]) (lo := w1.heap.size) ?_ (by first | omega | (simp; omega)) (by simp)
      repeat (refine Own4C.low ?_ (by first | (show _ < _; omega) | (simp; omega)) _)
      exact hOw
    have q2 : decide ((k : Int) < n) = true := decide_eq_true hlt
    have q3 : (y.halt == 0) = true := by simp [h0]
    have q4 : decide (y.count < 1000000) = true := decide_eq_true h1
    have hg := mGoes_iff.2 ⟨h0, h1⟩
    have HN := hide (mIter_step HI.out hlt HOK.out hg)
    have HS := hide (mStep_goes HOK.out hg (hasI irqs y.count))
    have HK := hide (show mchOkB (mStep y (hasI irqs y.count)) = true by rw [HS.out]; exact mOk_act HOK.out hg _)
    have hln := mAct_lens y (hasI irqs y.count)
    rw [← HS.out] at hln
    have hln1 := hln.1
    have hln2 := hln.2
    clear hln hg
    obtain ⟨sl1, sl2, sl3, sl4⟩ := hOw.sls
    have hy1 := hky.rl
    have hy2 := hky.ml
    have HY1 := hide hy1
    have HY2 := hide hy2
    clear hy1 hy2 h0 h1
    have yx : w2.heap.size < w4.heap.size := by omega
    have xx0 := hBx_4 0 _ rfl
    have xx1 := hBx_4 1 _ rfl
    have xx2 := hBx_4 2 _ rfl
    have xx3 := hBx_4 3 _ rfl
    have xx4 := hBx_4 4 _ rfl
    have xx5 := hBx_4 5 _ rfl
    have xx6 := hBx_4 6 _ rfl
    have xx7 := hBx_4 7 _ rfl
    have xx8 := hBx_4 8 _ rfl
    have xx9 := hBx_4 9 _ rfl
    have fx := hFx_4
    go_upto_region 7 with fail
    have hS : ∀ w', Ext w4 w' → ∀ bb oo, bb < w4.heap.size → w'.cell? ⟨bb, oo, none⟩ = w4.cell? ⟨bb, oo, none⟩ := fun w' hx bb oo hb => hx.cell hb
    refine wp_region_plan (fun w' => Ext w4 w') 5 (.float 0 (.float 1 (.float 2 (.float 3 (.chain 4 (.tail 5)))))) (by kernel_rfl) (by kernel_rfl) (Ext.refl _).drew ?_
    iterate 4 ((refine Plan.float_step (v := ?_) rfl (by rfl) (fun _ _ _ h => h) (fun w' hSw => ?_) ?_; rotate_left; · (go_simp; try with_reducible rfl)); (try simp only [Act.put, List.setIfInBounds_toArray, List.set_cons_zero, List.set_cons_succ]))
    refine Plan.chain_step rfl (fun K hK => ?_)
    go_simp
    refine (l3Has_any irqs y.count _ _ (hirqs.ext (Ext.hold he4))).mono ?_
    rintro e w9 ⟨rfl, rfl⟩
    refine hK.out _ _ Ext.auto ?_
    clear hK
    (try simp only [Act.put, List.setIfInBounds_toArray, List.set_cons_zero, List.set_cons_succ])
    refine Plan.tail_step ?_
    simp only [List.drop_succ_cons, List.drop_zero]
    clear hS
    go_wp2_with fail
    refine (specMchStep_any y (hasI irqs y.count) _ _ _ _ _ (sl1.ext (show Ext w4 w4.drew from Ext.auto)) (sl2.ext (show Ext w4 w4.drew from Ext.auto)) (sl3.ext (show Ext w4 w4.drew from Ext.auto)) (sl4.ext (show Ext w4 w4.drew from Ext.auto)) (by have := HY1.out; omega) (by have := HY2.out; omega) hyi (by omega)).mono ?_
    rintro e w5 ⟨r1, r2, r3, r4, rfl, hOz, hy⟩
    clear xx0 xx1 xx2 xx3 xx4 xx5 xx6 xx7 xx8 xx9 yx
    clear fx
    obtain ⟨B1z, B2z, B3z, B4z, d1z, d2z, d3z, d4z, rfl, rfl, rfl, rfl⟩ := hOz.form
    have hs5 := hy.size
    try simp at hs5
    have he5 : Ext w w5 := Ext.trans (Ext.hold he4) hy
    have hBx_5 : Bx w5 (w2.heap.size) [(.slice B1y y.regs.length d1y), .int .i64 y.pc, (.slice B2y y.mem.length d2y), .int .i64 y.save, .bool y.lets, .bool y.waits, .int .i64 y.halt, (.slice B3y y.ins.length d3y), (.slice B4y y.outs.length d4y), .int .i64 y.count] := hy.bx (Bx.hold hBx_4) (by first | omega | (simp; done) | (simp; omega))
    have hFx_5 : ∀ oo, w5.frozen? ⟨w2.heap.size, oo, none⟩ = false := fun oo => (hy.frozen (by first | omega | (simp; done) | (simp; omega))).trans ((fz_hold hFx_4) oo)
    have hBres_5 : Bx w5 (w.heap.size + 1) [.slice none 0 0, .int .i64 0, .slice none 0 0, .int .i64 0, .bool false, .bool false, .int .i64 0, .slice none 0 0, .slice none 0 0, .int .i64 0] := hy.bx (Bx.hold hBres_4) (by first | omega | (simp; done) | (simp; omega))
    have hFres_5 : ∀ oo, w5.frozen? ⟨w.heap.size + 1, oo, none⟩ = false := fun oo => (hy.frozen (by first | omega | (simp; done) | (simp; omega))).trans ((fz_hold hFres_4) oo)
    try clear hBx_4 hFx_4 hBres_4 hFres_4
    have hOz2 := hOz.reX (X' := [w2.heap.size]) (lo' := w1.heap.size) (by simp; omega) (by intro x hx; simp at hx ⊢; omega)
    clear hOz hy sl1 sl2 sl3 sl4 hOw
    generalize hyz : mStep y (hasI irqs y.count) = z at *
    have yx : w2.heap.size < w5.heap.size := by omega
    have xx0 := hBx_5 0 _ rfl
    have xx1 := hBx_5 1 _ rfl
    have xx2 := hBx_5 2 _ rfl
    have xx3 := hBx_5 3 _ rfl
    have xx4 := hBx_5 4 _ rfl
    have xx5 := hBx_5 5 _ rfl
    have xx6 := hBx_5 6 _ rfl
    have xx7 := hBx_5 7 _ rfl
    have xx8 := hBx_5 8 _ rfl
    have xx9 := hBx_5 9 _ rfl
    have fx := hFx_5
    go_wp2
    clear xx0 xx1 xx2 xx3 xx4 xx5 xx6 xx7 xx8 xx9 yx
    clear fx
    have hOn := Own4C.sets10 (b := w2.heap.size) hOz2 (by simp) ((.slice B1z z.regs.length d1z)) (.int .i64 z.pc) ((.slice B2z z.mem.length d2z)) (.int .i64 z.save) (.bool z.lets) (.bool z.waits) (.int .i64 z.halt) ((.slice B3z z.ins.length d3z)) ((.slice B4z z.outs.length d4z)) (.int .i64 z.count)
    have hBn := hBx_5.store10 rfl ((.slice B1z z.regs.length d1z)) (.int .i64 z.pc) ((.slice B2z z.mem.length d2z)) (.int .i64 z.save) (.bool z.lets) (.bool z.waits) (.int .i64 z.halt) ((.slice B3z z.ins.length d3z)) ((.slice B4z z.outs.length d4z)) (.int .i64 z.count)
    go_round
    case rel => exact ⟨k + 1, z, B1z, B2z, B3z, B4z, d1z, d2z, d3z, d4z, by go_num, HN, HK.out, by omega, by omega, by omega, hOn, Ext.hold he5, by simp; omega, hBn, fz_hold hFx_5, Bx.hold hBres_5, fz_hold hFres_5⟩
    case measure => (simp [intOf]; try omega)

end Go.Proofs.YtokibcicoomceaaDoor
