/-
  A step of a machine, in place: the reference.
-/
import Derived.Test.YtokibcicoomceaaDoorStepV
import Derived.Test.YtokibcicoomceaaDoorMClone
import Derived.Deep.DeepCutAuto
namespace Go.Proofs.YtokibcicoomceaaDoor
open Go.RowKit

set_option linter.unusedVariables false
set_option linter.unusedSimpArgs false
set_option maxRecDepth 100000

set_option maxHeartbeats 16000000 in
theorem l3Set_any (m : MchMach) (g1 o1 c1 g2 o2 c2 : Nat) (v3 v4 : Value) (lo : Nat) (X : List Nat) (w : World) (hM : Mach 3 lo X w g1 o1 c1 g2 o2 c2 v3 v4 m) (hk : MOk m) (hc : m.count < 1000000) (D : Nat) (hD : D < 4) (n : Int) (hn0 : 0 ≤ n) (hn1 : n < 65536) :
    Calls Tryd.prog 112 #[.agg #[(.slice (some ⟨g1, o1, none⟩) 4 c1), .int .i64 m.pc, (.slice (some ⟨g2, o2, none⟩) 64 c2), .int .i64 m.save, .bool m.lets, .bool m.waits, .int .i64 m.halt, v3, v4, .int .i64 m.count], .int .i64 (D : Int), .int .i64 n] w fun e w' => e = .returned (.agg #[(.slice (some ⟨g1, o1, none⟩) 4 c1), .int .i64 (((m.setR (D : Int) n).next (m.pc + 1)).pc), (.slice (some ⟨g2, o2, none⟩) 64 c2), .int .i64 (((m.setR (D : Int) n).next (m.pc + 1)).save), .bool ((m.setR (D : Int) n).next (m.pc + 1)).lets, .bool ((m.setR (D : Int) n).next (m.pc + 1)).waits, .int .i64 (((m.setR (D : Int) n).next (m.pc + 1)).halt), v3, v4, .int .i64 (((m.setR (D : Int) n).next (m.pc + 1)).count)]) ∧ Mach 3 lo X w' g1 o1 c1 g2 o2 c2 v3 v4 ((m.setR (D : Int) n).next (m.pc + 1)) ∧ Turn [g1] w w' := by
  obtain ⟨A3, c3, rfl, hl3, hm3⟩ := hM.form3
  obtain ⟨A4, c4, rfl, hl4, hm4⟩ := hM.form4
  unfold maxLen at hm3 hm4
  have hp0 := hk.p0
  have hp1 := hk.p1
  have hc0 := hk.c0
  have hlt := hM.lt
  have hlt1 := hlt.1
  have hlt2 := hlt.2.1
  have hgl1 := hlt.2.2.1
  have hgl2 := hlt.2.2.2.1
  have hown : ∀ q, (Value.slice A4 m.outs.length c4).ownBlock = some q → q < w.heap.size := fun q hq => (hlt.2.2.2.2 q (by unfold mfoot; simp [hq])).2
  have hfoot : ∀ x, x ∈ mfoot g1 g2 (Value.slice A4 m.outs.length c4) → x < w.heap.size := fun x hx => (hlt.2.2.2.2 x hx).2
  clear hlt
  go_enter Tryd.func112, Tryd.ntmps112
  go_upto_region 1 with fail
  have he0 : Ext w ((w.alloc (Obj.cells #[(.slice (some ⟨g1, o1, none⟩) 4 c1), .int .i64 m.pc, (.slice (some ⟨g2, o2, none⟩) 64 c2), .int .i64 m.save, .bool m.lets, .bool m.waits, .int .i64 m.halt, (.slice A3 m.ins.length c3), (.slice A4 m.outs.length c4), .int .i64 m.count] 51)).alloc (Obj.cells #[.slice none 0 0, .int .i64 0, .slice none 0 0, .int .i64 0, .bool false, .bool false, .int .i64 0, .slice none 0 0, .slice none 0 0, .int .i64 0] 51)) := (Ext.auto)
  have hs0 : w.heap.size + 2 ≤ (((w.alloc (Obj.cells #[(.slice (some ⟨g1, o1, none⟩) 4 c1), .int .i64 m.pc, (.slice (some ⟨g2, o2, none⟩) 64 c2), .int .i64 m.save, .bool m.lets, .bool m.waits, .int .i64 m.halt, (.slice A3 m.ins.length c3), (.slice A4 m.outs.length c4), .int .i64 m.count] 51)).alloc (Obj.cells #[.slice none 0 0, .int .i64 0, .slice none 0 0, .int .i64 0, .bool false, .bool false, .int .i64 0, .slice none 0 0, .slice none 0 0, .int .i64 0] 51))).heap.size := by simp
  have hq0 := hide (show (((w.alloc (Obj.cells #[(.slice (some ⟨g1, o1, none⟩) 4 c1), .int .i64 m.pc, (.slice (some ⟨g2, o2, none⟩) 64 c2), .int .i64 m.save, .bool m.lets, .bool m.waits, .int .i64 m.halt, (.slice A3 m.ins.length c3), (.slice A4 m.outs.length c4), .int .i64 m.count] 51)).alloc (Obj.cells #[.slice none 0 0, .int .i64 0, .slice none 0 0, .int .i64 0, .bool false, .bool false, .int .i64 0, .slice none 0 0, .slice none 0 0, .int .i64 0] 51))).heap.size = w.heap.size + 2 by simp)
  have hBm_0 : Bx ((w.alloc (Obj.cells #[(.slice (some ⟨g1, o1, none⟩) 4 c1), .int .i64 m.pc, (.slice (some ⟨g2, o2, none⟩) 64 c2), .int .i64 m.save, .bool m.lets, .bool m.waits, .int .i64 m.halt, (.slice A3 m.ins.length c3), (.slice A4 m.outs.length c4), .int .i64 m.count] 51)).alloc (Obj.cells #[.slice none 0 0, .int .i64 0, .slice none 0 0, .int .i64 0, .bool false, .bool false, .int .i64 0, .slice none 0 0, .slice none 0 0, .int .i64 0] 51)) (w.heap.size) [(.slice (some ⟨g1, o1, none⟩) 4 c1), .int .i64 m.pc, (.slice (some ⟨g2, o2, none⟩) 64 c2), .int .i64 m.save, .bool m.lets, .bool m.waits, .int .i64 m.halt, (.slice A3 m.ins.length c3), (.slice A4 m.outs.length c4), .int .i64 m.count] := (by have := (Bx.alloc (Bx.new w #[(.slice (some ⟨g1, o1, none⟩) 4 c1), .int .i64 m.pc, (.slice (some ⟨g2, o2, none⟩) 64 c2), .int .i64 m.save, .bool m.lets, .bool m.waits, .int .i64 m.halt, (.slice A3 m.ins.length c3), (.slice A4 m.outs.length c4), .int .i64 m.count] 51) (by simp) #[.slice none 0 0, .int .i64 0, .slice none 0 0, .int .i64 0, .bool false, .bool false, .int .i64 0, .slice none 0 0, .slice none 0 0, .int .i64 0] 51); simpa using this)
  have hFm_0 : ∀ oo, (((w.alloc (Obj.cells #[(.slice (some ⟨g1, o1, none⟩) 4 c1), .int .i64 m.pc, (.slice (some ⟨g2, o2, none⟩) 64 c2), .int .i64 m.save, .bool m.lets, .bool m.waits, .int .i64 m.halt, (.slice A3 m.ins.length c3), (.slice A4 m.outs.length c4), .int .i64 m.count] 51)).alloc (Obj.cells #[.slice none 0 0, .int .i64 0, .slice none 0 0, .int .i64 0, .bool false, .bool false, .int .i64 0, .slice none 0 0, .slice none 0 0, .int .i64 0] 51))).frozen? ⟨w.heap.size, oo, none⟩ = false := fun oo => by simp
  have hBres_0 : Bx ((w.alloc (Obj.cells #[(.slice (some ⟨g1, o1, none⟩) 4 c1), .int .i64 m.pc, (.slice (some ⟨g2, o2, none⟩) 64 c2), .int .i64 m.save, .bool m.lets, .bool m.waits, .int .i64 m.halt, (.slice A3 m.ins.length c3), (.slice A4 m.outs.length c4), .int .i64 m.count] 51)).alloc (Obj.cells #[.slice none 0 0, .int .i64 0, .slice none 0 0, .int .i64 0, .bool false, .bool false, .int .i64 0, .slice none 0 0, .slice none 0 0, .int .i64 0] 51)) (w.heap.size + 1) [.slice none 0 0, .int .i64 0, .slice none 0 0, .int .i64 0, .bool false, .bool false, .int .i64 0, .slice none 0 0, .slice none 0 0, .int .i64 0] := (by have := (Bx.new (w.alloc (Obj.cells #[(.slice (some ⟨g1, o1, none⟩) 4 c1), .int .i64 m.pc, (.slice (some ⟨g2, o2, none⟩) 64 c2), .int .i64 m.save, .bool m.lets, .bool m.waits, .int .i64 m.halt, (.slice A3 m.ins.length c3), (.slice A4 m.outs.length c4), .int .i64 m.count] 51)) #[.slice none 0 0, .int .i64 0, .slice none 0 0, .int .i64 0, .bool false, .bool false, .int .i64 0, .slice none 0 0, .slice none 0 0, .int .i64 0] 51); simpa using this)
  have hFres_0 : ∀ oo, (((w.alloc (Obj.cells #[(.slice (some ⟨g1, o1, none⟩) 4 c1), .int .i64 m.pc, (.slice (some ⟨g2, o2, none⟩) 64 c2), .int .i64 m.save, .bool m.lets, .bool m.waits, .int .i64 m.halt, (.slice A3 m.ins.length c3), (.slice A4 m.outs.length c4), .int .i64 m.count] 51)).alloc (Obj.cells #[.slice none 0 0, .int .i64 0, .slice none 0 0, .int .i64 0, .bool false, .bool false, .int .i64 0, .slice none 0 0, .slice none 0 0, .int .i64 0] 51))).frozen? ⟨w.heap.size + 1, oo, none⟩ = false := fun oo => by simp
  generalize ((w.alloc (Obj.cells #[(.slice (some ⟨g1, o1, none⟩) 4 c1), .int .i64 m.pc, (.slice (some ⟨g2, o2, none⟩) 64 c2), .int .i64 m.save, .bool m.lets, .bool m.waits, .int .i64 m.halt, (.slice A3 m.ins.length c3), (.slice A4 m.outs.length c4), .int .i64 m.count] 51)).alloc (Obj.cells #[.slice none 0 0, .int .i64 0, .slice none 0 0, .int .i64 0, .bool false, .bool false, .int .i64 0, .slice none 0 0, .slice none 0 0, .int .i64 0] 51)) = w0 at *
  have ht0 : Turn [g1] w w0 := Turn.of_ext he0 _
  have hM0 : Mach 3 lo ((w.heap.size) :: (w.heap.size + 1) :: X) w0 g1 o1 c1 g2 o2 c2 (.slice A3 m.ins.length c3) (.slice A4 m.outs.length c4) m := hM.addXs he0 [w.heap.size, w.heap.size + 1] (by intro b hb; simp at hb; omega)
  have yg1 : g1 < w0.heap.size := by omega
  have yg2 : g2 < w0.heap.size := by omega
  have r0 := hM0.regAt hD
  have fr := hM0.fz1
  have z0 : (0 : Int) ≤ (D : Int) := by omega
  have z1 : (D : Int) < 4 := by omega
  have ym : w.heap.size < w0.heap.size := by omega
  have xm0 := hBm_0 0 _ rfl
  have xm1 := hBm_0 1 _ rfl
  have xm2 := hBm_0 2 _ rfl
  have xm3 := hBm_0 3 _ rfl
  have xm4 := hBm_0 4 _ rfl
  have xm5 := hBm_0 5 _ rfl
  have xm6 := hBm_0 6 _ rfl
  have xm7 := hBm_0 7 _ rfl
  have xm8 := hBm_0 8 _ rfl
  have xm9 := hBm_0 9 _ rfl
  have fm := hFm_0
  have yres : w.heap.size + 1 < w0.heap.size := by omega
  have xres0 := hBres_0 0 _ rfl
  have xres1 := hBres_0 1 _ rfl
  have xres2 := hBres_0 2 _ rfl
  have xres3 := hBres_0 3 _ rfl
  have xres4 := hBres_0 4 _ rfl
  have xres5 := hBres_0 5 _ rfl
  have xres6 := hBres_0 6 _ rfl
  have xres7 := hBres_0 7 _ rfl
  have xres8 := hBres_0 8 _ rfl
  have xres9 := hBres_0 9 _ rfl
  have fres := hFres_0
  go_wp2_with fail
  refine (l3Next_any (m.setR (D : Int) n) (m.pc + 1) (by omega) (by omega) (show 0 ≤ m.count from hc0) (show m.count ≤ 1000000 by omega) _ _ _ _ _ _ _ _ _ _ _ _ _).mono ?_
  rintro e w1 ⟨rfl, hy⟩
  clear xm0 xm1 xm2 xm3 xm4 xm5 xm6 xm7 xm8 xm9 ym
  clear fm
  clear xres0 xres1 xres2 xres3 xres4 xres5 xres6 xres7 xres8 xres9 yres
  clear fres
  have hs1 := hy.size
  try simp at hs1
  have ht1 : Turn [g1] w w1 := (Turn.hold ht0).call hy
  have hBres_1 : Bx w1 (w.heap.size + 1) [.slice none 0 0, .int .i64 0, .slice none 0 0, .int .i64 0, .bool false, .bool false, .int .i64 0, .slice none 0 0, .slice none 0 0, .int .i64 0] := hy.bx (Bx.hold hBres_0) (by first | omega | (simp; done) | (simp; omega))
  have hFres_1 : ∀ oo, w1.frozen? ⟨w.heap.size + 1, oo, none⟩ = false := fun oo => (hy.frozen (by first | omega | (simp; done) | (simp; omega))).trans ((fz_hold hFres_0) oo)
  try clear hBres_0 hFres_0
  have hM1 := ((hM0.setReg hD (n := n) ⟨by omega, by omega⟩).ext hy).same (m' := ((m.setR (D : Int) n).next (m.pc + 1))) rfl rfl rfl rfl
  clear hy hM0 r0 fr
  have yres : w.heap.size + 1 < w1.heap.size := by omega
  have xres0 := hBres_1 0 _ rfl
  have xres1 := hBres_1 1 _ rfl
  have xres2 := hBres_1 2 _ rfl
  have xres3 := hBres_1 3 _ rfl
  have xres4 := hBres_1 4 _ rfl
  have xres5 := hBres_1 5 _ rfl
  have xres6 := hBres_1 6 _ rfl
  have xres7 := hBres_1 7 _ rfl
  have xres8 := hBres_1 8 _ rfl
  have xres9 := hBres_1 9 _ rfl
  have fres := hFres_1
  go_wp2
  refine bodyPost_ret (v := .agg #[(.slice (some ⟨g1, o1, none⟩) 4 c1), .int .i64 (((m.setR (D : Int) n).next (m.pc + 1)).pc), (.slice (some ⟨g2, o2, none⟩) 64 c2), .int .i64 (((m.setR (D : Int) n).next (m.pc + 1)).save), .bool ((m.setR (D : Int) n).next (m.pc + 1)).lets, .bool ((m.setR (D : Int) n).next (m.pc + 1)).waits, .int .i64 (((m.setR (D : Int) n).next (m.pc + 1)).halt), (.slice A3 m.ins.length c3), (.slice A4 m.outs.length c4), .int .i64 (((m.setR (D : Int) n).next (m.pc + 1)).count)]) (by simp [results, Tryd.results112, go_sem, MchMach.next, MchMach.setR, xres0, xres1, xres2, xres3, xres4, xres5, xres6, xres7, xres8, xres9]) rfl ⟨rfl, Mach.dropX (Mach.dropX (Mach.hold hM1)), Turn.hold ht1⟩

set_option maxHeartbeats 16000000 in
theorem l3Port_any (m : MchMach) (g1 o1 c1 g2 o2 c2 : Nat) (v3 v4 : Value) (lo : Nat) (X : List Nat) (w : World) (hM : Mach 3 lo X w g1 o1 c1 g2 o2 c2 v3 v4 m) (hk : MOk m) (hc : m.count < 1000000) (hn4 : m.outs.length ≤ 4194304) (op : Int) (D : Nat) (a k : Int) (hD : D < 4) :
    Calls Tryd.prog 116 #[.agg #[(.slice (some ⟨g1, o1, none⟩) 4 c1), .int .i64 m.pc, (.slice (some ⟨g2, o2, none⟩) 64 c2), .int .i64 m.save, .bool m.lets, .bool m.waits, .int .i64 m.halt, v3, v4, .int .i64 m.count], .agg #[.int .i64 op, .int .i64 (D : Int), .int .i64 (a : Int), .int .i64 k]] w fun e w' => ∃ v3' v4', e = .returned (.agg #[(.slice (some ⟨g1, o1, none⟩) 4 c1), .int .i64 ((mPort m ⟨op, (D : Int), a, k⟩).pc), (.slice (some ⟨g2, o2, none⟩) 64 c2), .int .i64 ((mPort m ⟨op, (D : Int), a, k⟩).save), .bool (mPort m ⟨op, (D : Int), a, k⟩).lets, .bool (mPort m ⟨op, (D : Int), a, k⟩).waits, .int .i64 ((mPort m ⟨op, (D : Int), a, k⟩).halt), v3', v4', .int .i64 ((mPort m ⟨op, (D : Int), a, k⟩).count)]) ∧ Mach 3 lo X w' g1 o1 c1 g2 o2 c2 v3' v4' (mPort m ⟨op, (D : Int), a, k⟩) ∧ Turn (mfoot g1 g2 v4) w w' ∧ (∀ q, v4'.ownBlock = some q → v4.ownBlock = some q ∨ w.heap.size ≤ q) := by
  obtain ⟨i0, hi, hz0, hz1, hz2⟩ := info_parts infInt
  have HI := hide hi
  have HZ0 := hide hz0
  have HZ1 := hide hz1
  have HZ2 := hide hz2
  clear hi hz0 hz1 hz2
  obtain ⟨A3, c3, rfl, hl3, hm3⟩ := hM.form3
  obtain ⟨A4, c4, rfl, hl4, hm4⟩ := hM.form4
  unfold maxLen at hm3 hm4
  have hp0 := hk.p0
  have hp1 := hk.p1
  have hc0 := hk.c0
  have hlt := hM.lt
  have hlt1 := hlt.1
  have hlt2 := hlt.2.1
  have hgl1 := hlt.2.2.1
  have hgl2 := hlt.2.2.2.1
  have hown : ∀ q, (Value.slice A4 m.outs.length c4).ownBlock = some q → q < w.heap.size := fun q hq => (hlt.2.2.2.2 q (by unfold mfoot; simp [hq])).2
  have hfoot : ∀ x, x ∈ mfoot g1 g2 (Value.slice A4 m.outs.length c4) → x < w.heap.size := fun x hx => (hlt.2.2.2.2 x hx).2
  clear hlt
  by_cases hop : op = 14
  · 
    subst hop
    have HV := hide (show mPort m ⟨14, (D : Int), a, k⟩ = ({ m with outs := m.outs ++ [m.reg (D : Int)] } : MchMach).next (m.pc + 1) from rfl)
    go_enter Tryd.func116, Tryd.ntmps116
    go_upto_region 1 with fail
    have he0 : Ext w (((w.alloc (Obj.cells #[(.slice (some ⟨g1, o1, none⟩) 4 c1), .int .i64 m.pc, (.slice (some ⟨g2, o2, none⟩) 64 c2), .int .i64 m.save, .bool m.lets, .bool m.waits, .int .i64 m.halt, (.slice A3 m.ins.length c3), (.slice A4 m.outs.length c4), .int .i64 m.count] 51)).alloc (Obj.cells #[.int .i64 14, .int .i64 (D : Int), .int .i64 (a : Int), .int .i64 k] 30)).alloc (Obj.cells #[.slice none 0 0, .int .i64 0, .slice none 0 0, .int .i64 0, .bool false, .bool false, .int .i64 0, .slice none 0 0, .slice none 0 0, .int .i64 0] 51)) := (Ext.auto)
    have hs0 : w.heap.size + 3 ≤ ((((w.alloc (Obj.cells #[(.slice (some ⟨g1, o1, none⟩) 4 c1), .int .i64 m.pc, (.slice (some ⟨g2, o2, none⟩) 64 c2), .int .i64 m.save, .bool m.lets, .bool m.waits, .int .i64 m.halt, (.slice A3 m.ins.length c3), (.slice A4 m.outs.length c4), .int .i64 m.count] 51)).alloc (Obj.cells #[.int .i64 14, .int .i64 (D : Int), .int .i64 (a : Int), .int .i64 k] 30)).alloc (Obj.cells #[.slice none 0 0, .int .i64 0, .slice none 0 0, .int .i64 0, .bool false, .bool false, .int .i64 0, .slice none 0 0, .slice none 0 0, .int .i64 0] 51))).heap.size := by simp
    have hq0 := hide (show ((((w.alloc (Obj.cells #[(.slice (some ⟨g1, o1, none⟩) 4 c1), .int .i64 m.pc, (.slice (some ⟨g2, o2, none⟩) 64 c2), .int .i64 m.save, .bool m.lets, .bool m.waits, .int .i64 m.halt, (.slice A3 m.ins.length c3), (.slice A4 m.outs.length c4), .int .i64 m.count] 51)).alloc (Obj.cells #[.int .i64 14, .int .i64 (D : Int), .int .i64 (a : Int), .int .i64 k] 30)).alloc (Obj.cells #[.slice none 0 0, .int .i64 0, .slice none 0 0, .int .i64 0, .bool false, .bool false, .int .i64 0, .slice none 0 0, .slice none 0 0, .int .i64 0] 51))).heap.size = w.heap.size + 3 by simp)
    have hBm_0 : Bx (((w.alloc (Obj.cells #[(.slice (some ⟨g1, o1, none⟩) 4 c1), .int .i64 m.pc, (.slice (some ⟨g2, o2, none⟩) 64 c2), .int .i64 m.save, .bool m.lets, .bool m.waits, .int .i64 m.halt, (.slice A3 m.ins.length c3), (.slice A4 m.outs.length c4), .int .i64 m.count] 51)).alloc (Obj.cells #[.int .i64 14, .int .i64 (D : Int), .int .i64 (a : Int), .int .i64 k] 30)).alloc (Obj.cells #[.slice none 0 0, .int .i64 0, .slice none 0 0, .int .i64 0, .bool false, .bool false, .int .i64 0, .slice none 0 0, .slice none 0 0, .int .i64 0] 51)) (w.heap.size) [(.slice (some ⟨g1, o1, none⟩) 4 c1), .int .i64 m.pc, (.slice (some ⟨g2, o2, none⟩) 64 c2), .int .i64 m.save, .bool m.lets, .bool m.waits, .int .i64 m.halt, (.slice A3 m.ins.length c3), (.slice A4 m.outs.length c4), .int .i64 m.count] := (by have := (Bx.alloc (Bx.alloc (Bx.new w #[(.slice (some ⟨g1, o1, none⟩) 4 c1), .int .i64 m.pc, (.slice (some ⟨g2, o2, none⟩) 64 c2), .int .i64 m.save, .bool m.lets, .bool m.waits, .int .i64 m.halt, (.slice A3 m.ins.length c3), (.slice A4 m.outs.length c4), .int .i64 m.count] 51) (by simp) #[.int .i64 14, .int .i64 (D : Int), .int .i64 (a : Int), .int .i64 k] 30) (by first | (simp; done) | (simp; omega)) #[.slice none 0 0, .int .i64 0, .slice none 0 0, .int .i64 0, .bool false, .bool false, .int .i64 0, .slice none 0 0, .slice none 0 0, .int .i64 0] 51); simpa using this)
    have hFm_0 : ∀ oo, ((((w.alloc (Obj.cells #[(.slice (some ⟨g1, o1, none⟩) 4 c1), .int .i64 m.pc, (.slice (some ⟨g2, o2, none⟩) 64 c2), .int .i64 m.save, .bool m.lets, .bool m.waits, .int .i64 m.halt, (.slice A3 m.ins.length c3), (.slice A4 m.outs.length c4), .int .i64 m.count] 51)).alloc (Obj.cells #[.int .i64 14, .int .i64 (D : Int), .int .i64 (a : Int), .int .i64 k] 30)).alloc (Obj.cells #[.slice none 0 0, .int .i64 0, .slice none 0 0, .int .i64 0, .bool false, .bool false, .int .i64 0, .slice none 0 0, .slice none 0 0, .int .i64 0] 51))).frozen? ⟨w.heap.size, oo, none⟩ = false := (fz_alloc (fz_alloc (fz_new w #[(.slice (some ⟨g1, o1, none⟩) 4 c1), .int .i64 m.pc, (.slice (some ⟨g2, o2, none⟩) 64 c2), .int .i64 m.save, .bool m.lets, .bool m.waits, .int .i64 m.halt, (.slice A3 m.ins.length c3), (.slice A4 m.outs.length c4), .int .i64 m.count] 51 (by first | rfl | (simp; done))) (by first | (simp; done) | (simp; omega)) (Obj.cells #[.int .i64 14, .int .i64 (D : Int), .int .i64 (a : Int), .int .i64 k] 30)) (by first | (simp; done) | (simp; omega)) (Obj.cells #[.slice none 0 0, .int .i64 0, .slice none 0 0, .int .i64 0, .bool false, .bool false, .int .i64 0, .slice none 0 0, .slice none 0 0, .int .i64 0] 51))
    have hBi_0 : Bx (((w.alloc (Obj.cells #[(.slice (some ⟨g1, o1, none⟩) 4 c1), .int .i64 m.pc, (.slice (some ⟨g2, o2, none⟩) 64 c2), .int .i64 m.save, .bool m.lets, .bool m.waits, .int .i64 m.halt, (.slice A3 m.ins.length c3), (.slice A4 m.outs.length c4), .int .i64 m.count] 51)).alloc (Obj.cells #[.int .i64 14, .int .i64 (D : Int), .int .i64 (a : Int), .int .i64 k] 30)).alloc (Obj.cells #[.slice none 0 0, .int .i64 0, .slice none 0 0, .int .i64 0, .bool false, .bool false, .int .i64 0, .slice none 0 0, .slice none 0 0, .int .i64 0] 51)) (w.heap.size + 1) [.int .i64 14, .int .i64 (D : Int), .int .i64 (a : Int), .int .i64 k] := (by have := (Bx.alloc (Bx.new (w.alloc (Obj.cells #[(.slice (some ⟨g1, o1, none⟩) 4 c1), .int .i64 m.pc, (.slice (some ⟨g2, o2, none⟩) 64 c2), .int .i64 m.save, .bool m.lets, .bool m.waits, .int .i64 m.halt, (.slice A3 m.ins.length c3), (.slice A4 m.outs.length c4), .int .i64 m.count] 51)) #[.int .i64 14, .int .i64 (D : Int), .int .i64 (a : Int), .int .i64 k] 30) (by simp) #[.slice none 0 0, .int .i64 0, .slice none 0 0, .int .i64 0, .bool false, .bool false, .int .i64 0, .slice none 0 0, .slice none 0 0, .int .i64 0] 51); simpa using this)
    have hFi_0 : ∀ oo, ((((w.alloc (Obj.cells #[(.slice (some ⟨g1, o1, none⟩) 4 c1), .int .i64 m.pc, (.slice (some ⟨g2, o2, none⟩) 64 c2), .int .i64 m.save, .bool m.lets, .bool m.waits, .int .i64 m.halt, (.slice A3 m.ins.length c3), (.slice A4 m.outs.length c4), .int .i64 m.count] 51)).alloc (Obj.cells #[.int .i64 14, .int .i64 (D : Int), .int .i64 (a : Int), .int .i64 k] 30)).alloc (Obj.cells #[.slice none 0 0, .int .i64 0, .slice none 0 0, .int .i64 0, .bool false, .bool false, .int .i64 0, .slice none 0 0, .slice none 0 0, .int .i64 0] 51))).frozen? ⟨w.heap.size + 1, oo, none⟩ = false := (fz_alloc (fz_new (w.alloc (Obj.cells #[(.slice (some ⟨g1, o1, none⟩) 4 c1), .int .i64 m.pc, (.slice (some ⟨g2, o2, none⟩) 64 c2), .int .i64 m.save, .bool m.lets, .bool m.waits, .int .i64 m.halt, (.slice A3 m.ins.length c3), (.slice A4 m.outs.length c4), .int .i64 m.count] 51)) #[.int .i64 14, .int .i64 (D : Int), .int .i64 (a : Int), .int .i64 k] 30 (by first | rfl | (simp; done))) (by first | (simp; done) | (simp; omega)) (Obj.cells #[.slice none 0 0, .int .i64 0, .slice none 0 0, .int .i64 0, .bool false, .bool false, .int .i64 0, .slice none 0 0, .slice none 0 0, .int .i64 0] 51))
    have hBres_0 : Bx (((w.alloc (Obj.cells #[(.slice (some ⟨g1, o1, none⟩) 4 c1), .int .i64 m.pc, (.slice (some ⟨g2, o2, none⟩) 64 c2), .int .i64 m.save, .bool m.lets, .bool m.waits, .int .i64 m.halt, (.slice A3 m.ins.length c3), (.slice A4 m.outs.length c4), .int .i64 m.count] 51)).alloc (Obj.cells #[.int .i64 14, .int .i64 (D : Int), .int .i64 (a : Int), .int .i64 k] 30)).alloc (Obj.cells #[.slice none 0 0, .int .i64 0, .slice none 0 0, .int .i64 0, .bool false, .bool false, .int .i64 0, .slice none 0 0, .slice none 0 0, .int .i64 0] 51)) (w.heap.size + 1 + 1) [.slice none 0 0, .int .i64 0, .slice none 0 0, .int .i64 0, .bool false, .bool false, .int .i64 0, .slice none 0 0, .slice none 0 0, .int .i64 0] := (by have := (Bx.new ((w.alloc (Obj.cells #[(.slice (some ⟨g1, o1, none⟩) 4 c1), .int .i64 m.pc, (.slice (some ⟨g2, o2, none⟩) 64 c2), .int .i64 m.save, .bool m.lets, .bool m.waits, .int .i64 m.halt, (.slice A3 m.ins.length c3), (.slice A4 m.outs.length c4), .int .i64 m.count] 51)).alloc (Obj.cells #[.int .i64 14, .int .i64 (D : Int), .int .i64 (a : Int), .int .i64 k] 30)) #[.slice none 0 0, .int .i64 0, .slice none 0 0, .int .i64 0, .bool false, .bool false, .int .i64 0, .slice none 0 0, .slice none 0 0, .int .i64 0] 51); simpa using this)
    have hFres_0 : ∀ oo, ((((w.alloc (Obj.cells #[(.slice (some ⟨g1, o1, none⟩) 4 c1), .int .i64 m.pc, (.slice (some ⟨g2, o2, none⟩) 64 c2), .int .i64 m.save, .bool m.lets, .bool m.waits, .int .i64 m.halt, (.slice A3 m.ins.length c3), (.slice A4 m.outs.length c4), .int .i64 m.count] 51)).alloc (Obj.cells #[.int .i64 14, .int .i64 (D : Int), .int .i64 (a : Int), .int .i64 k] 30)).alloc (Obj.cells #[.slice none 0 0, .int .i64 0, .slice none 0 0, .int .i64 0, .bool false, .bool false, .int .i64 0, .slice none 0 0, .slice none 0 0, .int .i64 0] 51))).frozen? ⟨w.heap.size + 1 + 1, oo, none⟩ = false := (fz_new ((w.alloc (Obj.cells #[(.slice (some ⟨g1, o1, none⟩) 4 c1), .int .i64 m.pc, (.slice (some ⟨g2, o2, none⟩) 64 c2), .int .i64 m.save, .bool m.lets, .bool m.waits, .int .i64 m.halt, (.slice A3 m.ins.length c3), (.slice A4 m.outs.length c4), .int .i64 m.count] 51)).alloc (Obj.cells #[.int .i64 14, .int .i64 (D : Int), .int .i64 (a : Int), .int .i64 k] 30)) #[.slice none 0 0, .int .i64 0, .slice none 0 0, .int .i64 0, .bool false, .bool false, .int .i64 0, .slice none 0 0, .slice none 0 0, .int .i64 0] 51 (by first | rfl | (simp; done)))
    generalize (((w.alloc (Obj.cells #[(.slice (some ⟨g1, o1, none⟩) 4 c1), .int .i64 m.pc, (.slice (some ⟨g2, o2, none⟩) 64 c2), .int .i64 m.save, .bool m.lets, .bool m.waits, .int .i64 m.halt, (.slice A3 m.ins.length c3), (.slice A4 m.outs.length c4), .int .i64 m.count] 51)).alloc (Obj.cells #[.int .i64 14, .int .i64 (D : Int), .int .i64 (a : Int), .int .i64 k] 30)).alloc (Obj.cells #[.slice none 0 0, .int .i64 0, .slice none 0 0, .int .i64 0, .bool false, .bool false, .int .i64 0, .slice none 0 0, .slice none 0 0, .int .i64 0] 51)) = w0 at *
    have ht0 : Turn (mfoot g1 g2 (.slice A4 m.outs.length c4)) w w0 := Turn.of_ext he0 _
    have hM0 : Mach 3 lo ((w.heap.size) :: (w.heap.size + 1) :: (w.heap.size + 1 + 1) :: X) w0 g1 o1 c1 g2 o2 c2 (.slice A3 m.ins.length c3) (.slice A4 m.outs.length c4) m := hM.addXs he0 [w.heap.size, w.heap.size + 1, w.heap.size + 1 + 1] (by intro b hb; simp at hb; omega)
    have yg1 : g1 < w0.heap.size := by omega
    have yg2 : g2 < w0.heap.size := by omega
    have r0 := hM0.regAt hD
    have fr := hM0.fz1
    have z0 : (0 : Int) ≤ (D : Int) := by omega
    have z1 : (D : Int) < 4 := by omega
    obtain ⟨F3, wa, Fs, xs, hC⟩ := hM0
    have hfit : Fits (m.reg (D : Int)) := by have := hk.reg (D : Int); unfold Fits; omega
    have ym : w.heap.size < w0.heap.size := by omega
    have xm0 := hBm_0 0 _ rfl
    have xm1 := hBm_0 1 _ rfl
    have xm2 := hBm_0 2 _ rfl
    have xm3 := hBm_0 3 _ rfl
    have xm4 := hBm_0 4 _ rfl
    have xm5 := hBm_0 5 _ rfl
    have xm6 := hBm_0 6 _ rfl
    have xm7 := hBm_0 7 _ rfl
    have xm8 := hBm_0 8 _ rfl
    have xm9 := hBm_0 9 _ rfl
    have fm := hFm_0
    have yi : w.heap.size + 1 < w0.heap.size := by omega
    have xi0 := hBi_0 0 _ rfl
    have xi1 := hBi_0 1 _ rfl
    have xi2 := hBi_0 2 _ rfl
    have xi3 := hBi_0 3 _ rfl
    have fi := hFi_0
    have yres : w.heap.size + 1 + 1 < w0.heap.size := by omega
    have xres0 := hBres_0 0 _ rfl
    have xres1 := hBres_0 1 _ rfl
    have xres2 := hBres_0 2 _ rfl
    have xres3 := hBres_0 3 _ rfl
    have xres4 := hBres_0 4 _ rfl
    have xres5 := hBres_0 5 _ rfl
    have xres6 := hBres_0 6 _ rfl
    have xres7 := hBres_0 7 _ rfl
    have xres8 := hBres_0 8 _ rfl
    have xres9 := hBres_0 9 _ rfl
    have fres := hFres_0
    go_upto_region 2 with fail
    have hS : ∀ w', Ext w0 w' → ∀ bb oo, bb < w0.heap.size → w'.cell? ⟨bb, oo, none⟩ = w0.cell? ⟨bb, oo, none⟩ := fun w' hx bb oo hb => hx.cell hb
    refine wp_region_plan (fun w' => Ext w0 w') 9 (.float 0 (.float 1 (.float 2 (.float 3 (.float 4 (.float 5 (.float 6 (.float 7 (.chain 8 (.tail 9)))))))))) (by kernel_rfl) (by kernel_rfl) (Ext.refl _).drew ?_
    iterate 8 ((refine Plan.float_step (v := ?_) rfl (by rfl) (fun _ _ _ h => h) (fun w' hSw => ?_) ?_; rotate_left; · (go_simp; try with_reducible rfl)); (try simp only [Act.put, List.setIfInBounds_toArray, List.set_cons_zero, List.set_cons_succ]))
    refine Plan.chain_step rfl (fun K hK => ?_)
    go_simp
    refine hK.out _ _ Ext.auto ?_
    clear hK
    (try simp only [Act.put, List.setIfInBounds_toArray, List.set_cons_zero, List.set_cons_succ])
    refine Plan.tail_step ?_
    simp only [List.drop_succ_cons, List.drop_zero]
    clear hS
    rw [drew_alloc]
    have hnot : ∀ b, w.heap.size ≤ b → b ∉ (Value.slice A4 m.outs.length c4).ownBlock.toList := fun b hb hm => by have := hown b (by simpa using hm); omega
    go_upto_region 3 with (at_builtin; go_must (refine wpList_append_push2 (α := Int) (w0 := wa) (wr := w0) rfl _ _ 39 rfl i0 _ 8 Tryd.underlying39 HI.out HZ0.out HZ1.out HZ2.out rfl (by decide) hC.s4 rfl (m.reg (D : Int)) #[.int .i64 (m.reg (D : Int))] 3 [] _ rfl Ext.auto ⟨⟨rfl, hfit⟩, rfl⟩ (Fr.nil _ _) (by repeat (first | (exact fun _ h => absurd h (List.not_mem_nil)) | (refine List.forall_mem_cons.2 ⟨rfl, ?_⟩))) (by unfold maxLen; omega) (by omega) ?_); intro v' w9 xs' hA9 hg9 hb9; have hP := hC.push (W := (w0.drew.alloc (.cells #[.int .i64 (m.reg (D : Int))] 3))) Ext.auto hA9 hg9 hb9; obtain ⟨A9, c9, rfl, hl9, hm9⟩ := hP.form4; have hT9 := (Turn.of_grown (a := w0) (b := (w0.drew.alloc (.cells #[.int .i64 (m.reg (D : Int))] 3))) Ext.auto hg9); have hsz9 := hg9.size; have hBm9 := hT9.bx hBm_0 ym (hnot _ (by omega)); have hFm9 := fun oo => (hT9.frozen ym (hnot _ (by omega))).trans (hFm_0 oo); have hBi9 := hT9.bx hBi_0 yi (hnot _ (by omega)); have hFi9 := fun oo => (hT9.frozen yi (hnot _ (by omega))).trans (hFi_0 oo); have hBres9 := hT9.bx hBres_0 yres (hnot _ (by omega)); have hFres9 := fun oo => (hT9.frozen yres (hnot _ (by omega))).trans (hFres_0 oo); have xq0 := hBm9 0 _ rfl; have xp0 := hBi9 0 _ rfl; have xq1 := hBm9 1 _ rfl; have xp1 := hBi9 1 _ rfl; have xq2 := hBm9 2 _ rfl; have xp2 := hBi9 2 _ rfl; have xq3 := hBm9 3 _ rfl; have xp3 := hBi9 3 _ rfl; have xq4 := hBm9 4 _ rfl; have xq5 := hBm9 5 _ rfl; have xq6 := hBm9 6 _ rfl; have xq7 := hBm9 7 _ rfl; have xq8 := hBm9 8 _ rfl; have xq9 := hBm9 9 _ rfl; have yq := Nat.lt_of_lt_of_le ym (Turn.size hT9))
    clear xm0 xm1 xm2 xm3 xm4 xm5 xm6 xm7 xm8 xm9 ym
    clear fm
    clear xi0 xi1 xi2 xi3 yi
    clear fi
    clear xres0 xres1 xres2 xres3 xres4 xres5 xres6 xres7 xres8 xres9 yres
    clear fres
    clear xq0 xq1 xq2 xq3 xq4 xq5 xq6 xq7 xq8 xq9 xp0 xp1 xp2 xp3
    have e9 : ({ m with outs := m.outs ++ [m.reg (D : Int)] } : MchMach).outs.length = m.outs.length + 1 := by simp
    rw [e9] at hP hl9 hb9
    clear e9
    have hO9 : ∀ q, (Value.slice A9 (m.outs.length + 1) c9).ownBlock = some q → (Value.slice A4 m.outs.length c4).ownBlock = some q ∨ w.heap.size ≤ q := fun q hq => by
      rcases hb9 with hb | hb
      · exact .inl (hb ▸ hq)
      · refine .inr ?_
        have hb2 := hb.symm.trans hq
        injection hb2 with hb2
        subst hb2
        simp
        omega
    clear hb9
    have hM1 := hP.far (p := ⟨w.heap.size, 8, none⟩) (by simp) (.slice A9 (m.outs.length + 1) c9)
    have ht1 : Turn (mfoot g1 g2 (.slice A4 m.outs.length c4)) w (w9.setCell ⟨w.heap.size, 8, none⟩ (.slice A9 (m.outs.length + 1) c9)) := (ht0.trans hT9 (fun x hx => .inl (by unfold mfoot; exact List.mem_cons_of_mem _ (List.mem_cons_of_mem _ hx)))).set (.inr (by show w.heap.size ≤ w.heap.size; omega)) _
    have hs1 : w.heap.size + 3 ≤ (w9.setCell ⟨w.heap.size, 8, none⟩ (.slice A9 (m.outs.length + 1) c9)).heap.size := by simp at hsz9 ⊢; omega
    have hBm_1 : Bx (w9.setCell ⟨w.heap.size, 8, none⟩ (.slice A9 (m.outs.length + 1) c9)) (w.heap.size) [(.slice (some ⟨g1, o1, none⟩) 4 c1), .int .i64 m.pc, (.slice (some ⟨g2, o2, none⟩) 64 c2), .int .i64 m.save, .bool m.lets, .bool m.waits, .int .i64 m.halt, (.slice A3 m.ins.length c3), (.slice A9 (m.outs.length + 1) c9), .int .i64 m.count] := by have := Bx.put hBm9 (j := 8) (by simp) (.slice A9 (m.outs.length + 1) c9); simpa using this
    have hFm_1 : ∀ oo, (w9.setCell ⟨w.heap.size, 8, none⟩ (.slice A9 (m.outs.length + 1) c9)).frozen? ⟨w.heap.size, oo, none⟩ = false := fz_set hFm9 _ _
    have hBi_1 : Bx (w9.setCell ⟨w.heap.size, 8, none⟩ (.slice A9 (m.outs.length + 1) c9)) (w.heap.size + 1) [.int .i64 14, .int .i64 (D : Int), .int .i64 (a : Int), .int .i64 k] := hBi9.setCell (by show w.heap.size ≠ w.heap.size + 1; omega) _
    have hFi_1 : ∀ oo, (w9.setCell ⟨w.heap.size, 8, none⟩ (.slice A9 (m.outs.length + 1) c9)).frozen? ⟨w.heap.size + 1, oo, none⟩ = false := fz_set hFi9 _ _
    have hBres_1 : Bx (w9.setCell ⟨w.heap.size, 8, none⟩ (.slice A9 (m.outs.length + 1) c9)) (w.heap.size + 1 + 1) [.slice none 0 0, .int .i64 0, .slice none 0 0, .int .i64 0, .bool false, .bool false, .int .i64 0, .slice none 0 0, .slice none 0 0, .int .i64 0] := hBres9.setCell (by show w.heap.size ≠ w.heap.size + 1 + 1; omega) _
    have hFres_1 : ∀ oo, (w9.setCell ⟨w.heap.size, 8, none⟩ (.slice A9 (m.outs.length + 1) c9)).frozen? ⟨w.heap.size + 1 + 1, oo, none⟩ = false := fz_set hFres9 _ _
    generalize (w9.setCell ⟨w.heap.size, 8, none⟩ (.slice A9 (m.outs.length + 1) c9)) = w1 at *
    clear hP hT9 hA9 hg9 hsz9 hC yq hBm9 hFm9 hBm_0 hFm_0 hBi9 hFi9 hBi_0 hFi_0 hBres9 hFres9 hBres_0 hFres_0
    have ym : w.heap.size < w1.heap.size := by omega
    have xm0 := hBm_1 0 _ rfl
    have xm1 := hBm_1 1 _ rfl
    have xm2 := hBm_1 2 _ rfl
    have xm3 := hBm_1 3 _ rfl
    have xm4 := hBm_1 4 _ rfl
    have xm5 := hBm_1 5 _ rfl
    have xm6 := hBm_1 6 _ rfl
    have xm7 := hBm_1 7 _ rfl
    have xm8 := hBm_1 8 _ rfl
    have xm9 := hBm_1 9 _ rfl
    go_wp2_with fail
    refine (l3Next_any ({ m with outs := m.outs ++ [m.reg (D : Int)] } : MchMach) (m.pc + 1) (by omega) (by omega) (show 0 ≤ m.count from hc0) (show m.count ≤ 1000000 by omega) _ _ _ _ _ _ _ _ _ _ _ _ _).mono ?_
    rintro e w2 ⟨rfl, hy⟩
    clear xm0 xm1 xm2 xm3 xm4 xm5 xm6 xm7 xm8 xm9 ym
    have hs2 := hy.size
    try simp at hs2
    have ht2 : Turn (mfoot g1 g2 (.slice A4 m.outs.length c4)) w w2 := (Turn.hold ht1).call hy
    have hBres_2 : Bx w2 (w.heap.size + 1 + 1) [.slice none 0 0, .int .i64 0, .slice none 0 0, .int .i64 0, .bool false, .bool false, .int .i64 0, .slice none 0 0, .slice none 0 0, .int .i64 0] := hy.bx (Bx.hold hBres_1) (by first | omega | (simp; done) | (simp; omega))
    have hFres_2 : ∀ oo, w2.frozen? ⟨w.heap.size + 1 + 1, oo, none⟩ = false := fun oo => (hy.frozen (by first | omega | (simp; done) | (simp; omega))).trans ((fz_hold hFres_1) oo)
    try clear hBres_1 hFres_1
    have hM2 := (hM1.ext hy).same (m' := ({ m with outs := m.outs ++ [m.reg (D : Int)] } : MchMach).next (m.pc + 1)) rfl rfl rfl rfl
    clear hy hM1
    have yres : w.heap.size + 1 + 1 < w2.heap.size := by omega
    have xres0 := hBres_2 0 _ rfl
    have xres1 := hBres_2 1 _ rfl
    have xres2 := hBres_2 2 _ rfl
    have xres3 := hBres_2 3 _ rfl
    have xres4 := hBres_2 4 _ rfl
    have xres5 := hBres_2 5 _ rfl
    have xres6 := hBres_2 6 _ rfl
    have xres7 := hBres_2 7 _ rfl
    have xres8 := hBres_2 8 _ rfl
    have xres9 := hBres_2 9 _ rfl
    have fres := hFres_2
    go_wp2
    refine bodyPost_ret (v := .agg #[(.slice (some ⟨g1, o1, none⟩) 4 c1), .int .i64 ((({ m with outs := m.outs ++ [m.reg (D : Int)] } : MchMach).next (m.pc + 1)).pc), (.slice (some ⟨g2, o2, none⟩) 64 c2), .int .i64 ((({ m with outs := m.outs ++ [m.reg (D : Int)] } : MchMach).next (m.pc + 1)).save), .bool (({ m with outs := m.outs ++ [m.reg (D : Int)] } : MchMach).next (m.pc + 1)).lets, .bool (({ m with outs := m.outs ++ [m.reg (D : Int)] } : MchMach).next (m.pc + 1)).waits, .int .i64 ((({ m with outs := m.outs ++ [m.reg (D : Int)] } : MchMach).next (m.pc + 1)).halt), (.slice A3 m.ins.length c3), (.slice A9 (m.outs.length + 1) c9), .int .i64 ((({ m with outs := m.outs ++ [m.reg (D : Int)] } : MchMach).next (m.pc + 1)).count)]) (by simp [results, Tryd.results116, go_sem, MchMach.next, MchMach.setR, xres0, xres1, xres2, xres3, xres4, xres5, xres6, xres7, xres8, xres9]) rfl ⟨_, _, by rw [HV.out], by rw [HV.out]; exact Mach.dropX (Mach.dropX (Mach.dropX (Mach.hold hM2))), Turn.hold ht2, hO9⟩
  · 
    have HV := hide (show mPort m ⟨op, (D : Int), a, k⟩ = (({ m with ins := m.ins.drop 1 } : MchMach).setR (D : Int) ((m.ins[0]?).getD 0)).next (m.pc + 1) by unfold mPort; rw [if_neg hop])
    have q14 : (op == 14) = false := by simp [hop]
    clear hop
    by_cases hin : 0 < m.ins.length
    · 
      go_enter Tryd.func116, Tryd.ntmps116
      go_upto_region 1 with fail
      have he0 : Ext w (((w.alloc (Obj.cells #[(.slice (some ⟨g1, o1, none⟩) 4 c1), .int .i64 m.pc, (.slice (some ⟨g2, o2, none⟩) 64 c2), .int .i64 m.save, .bool m.lets, .bool m.waits, .int .i64 m.halt, (.slice A3 m.ins.length c3), (.slice A4 m.outs.length c4), .int .i64 m.count] 51)).alloc (Obj.cells #[.int .i64 op, .int .i64 (D : Int), .int .i64 (a : Int), .int .i64 k] 30)).alloc (Obj.cells #[.slice none 0 0, .int .i64 0, .slice none 0 0, .int .i64 0, .bool false, .bool false, .int .i64 0, .slice none 0 0, .slice none 0 0, .int .i64 0] 51)) := (Ext.auto)
      have hs0 : w.heap.size + 3 ≤ ((((w.alloc (Obj.cells #[(.slice (some ⟨g1, o1, none⟩) 4 c1), .int .i64 m.pc, (.slice (some ⟨g2, o2, none⟩) 64 c2), .int .i64 m.save, .bool m.lets, .bool m.waits, .int .i64 m.halt, (.slice A3 m.ins.length c3), (.slice A4 m.outs.length c4), .int .i64 m.count] 51)).alloc (Obj.cells #[.int .i64 op, .int .i64 (D : Int), .int .i64 (a : Int), .int .i64 k] 30)).alloc (Obj.cells #[.slice none 0 0, .int .i64 0, .slice none 0 0, .int .i64 0, .bool false, .bool false, .int .i64 0, .slice none 0 0, .slice none 0 0, .int .i64 0] 51))).heap.size := by simp
      have hq0 := hide (show ((((w.alloc (Obj.cells #[(.slice (some ⟨g1, o1, none⟩) 4 c1), .int .i64 m.pc, (.slice (some ⟨g2, o2, none⟩) 64 c2), .int .i64 m.save, .bool m.lets, .bool m.waits, .int .i64 m.halt, (.slice A3 m.ins.length c3), (.slice A4 m.outs.length c4), .int .i64 m.count] 51)).alloc (Obj.cells #[.int .i64 op, .int .i64 (D : Int), .int .i64 (a : Int), .int .i64 k] 30)).alloc (Obj.cells #[.slice none 0 0, .int .i64 0, .slice none 0 0, .int .i64 0, .bool false, .bool false, .int .i64 0, .slice none 0 0, .slice none 0 0, .int .i64 0] 51))).heap.size = w.heap.size + 3 by simp)
      have hBm_0 : Bx (((w.alloc (Obj.cells #[(.slice (some ⟨g1, o1, none⟩) 4 c1), .int .i64 m.pc, (.slice (some ⟨g2, o2, none⟩) 64 c2), .int .i64 m.save, .bool m.lets, .bool m.waits, .int .i64 m.halt, (.slice A3 m.ins.length c3), (.slice A4 m.outs.length c4), .int .i64 m.count] 51)).alloc (Obj.cells #[.int .i64 op, .int .i64 (D : Int), .int .i64 (a : Int), .int .i64 k] 30)).alloc (Obj.cells #[.slice none 0 0, .int .i64 0, .slice none 0 0, .int .i64 0, .bool false, .bool false, .int .i64 0, .slice none 0 0, .slice none 0 0, .int .i64 0] 51)) (w.heap.size) [(.slice (some ⟨g1, o1, none⟩) 4 c1), .int .i64 m.pc, (.slice (some ⟨g2, o2, none⟩) 64 c2), .int .i64 m.save, .bool m.lets, .bool m.waits, .int .i64 m.halt, (.slice A3 m.ins.length c3), (.slice A4 m.outs.length c4), .int .i64 m.count] := (by have := (Bx.alloc (Bx.alloc (Bx.new w #[(.slice (some ⟨g1, o1, none⟩) 4 c1), .int .i64 m.pc, (.slice (some ⟨g2, o2, none⟩) 64 c2), .int .i64 m.save, .bool m.lets, .bool m.waits, .int .i64 m.halt, (.slice A3 m.ins.length c3), (.slice A4 m.outs.length c4), .int .i64 m.count] 51) (by simp) #[.int .i64 op, .int .i64 (D : Int), .int .i64 (a : Int), .int .i64 k] 30) (by first | (simp; done) | (simp; omega)) #[.slice none 0 0, .int .i64 0, .slice none 0 0, .int .i64 0, .bool false, .bool false, .int .i64 0, .slice none 0 0, .slice none 0 0, .int .i64 0] 51); simpa using this)
      have hFm_0 : ∀ oo, ((((w.alloc (Obj.cells #[(.slice (some ⟨g1, o1, none⟩) 4 c1), .int .i64 m.pc, (.slice (some ⟨g2, o2, none⟩) 64 c2), .int .i64 m.save, .bool m.lets, .bool m.waits, .int .i64 m.halt, (.slice A3 m.ins.length c3), (.slice A4 m.outs.length c4), .int .i64 m.count] 51)).alloc (Obj.cells #[.int .i64 op, .int .i64 (D : Int), .int .i64 (a : Int), .int .i64 k] 30)).alloc (Obj.cells #[.slice none 0 0, .int .i64 0, .slice none 0 0, .int .i64 0, .bool false, .bool false, .int .i64 0, .slice none 0 0, .slice none 0 0, .int .i64 0] 51))).frozen? ⟨w.heap.size, oo, none⟩ = false := (fz_alloc (fz_alloc (fz_new w #[(.slice (some ⟨g1, o1, none⟩) 4 c1), .int .i64 m.pc, (.slice (some ⟨g2, o2, none⟩) 64 c2), .int .i64 m.save, .bool m.lets, .bool m.waits, .int .i64 m.halt, (.slice A3 m.ins.length c3), (.slice A4 m.outs.length c4), .int .i64 m.count] 51 (by first | rfl | (simp; done))) (by first | (simp; done) | (simp; omega)) (Obj.cells #[.int .i64 op, .int .i64 (D : Int), .int .i64 (a : Int), .int .i64 k] 30)) (by first | (simp; done) | (simp; omega)) (Obj.cells #[.slice none 0 0, .int .i64 0, .slice none 0 0, .int .i64 0, .bool false, .bool false, .int .i64 0, .slice none 0 0, .slice none 0 0, .int .i64 0] 51))
      have hBi_0 : Bx (((w.alloc (Obj.cells #[(.slice (some ⟨g1, o1, none⟩) 4 c1), .int .i64 m.pc, (.slice (some ⟨g2, o2, none⟩) 64 c2), .int .i64 m.save, .bool m.lets, .bool m.waits, .int .i64 m.halt, (.slice A3 m.ins.length c3), (.slice A4 m.outs.length c4), .int .i64 m.count] 51)).alloc (Obj.cells #[.int .i64 op, .int .i64 (D : Int), .int .i64 (a : Int), .int .i64 k] 30)).alloc (Obj.cells #[.slice none 0 0, .int .i64 0, .slice none 0 0, .int .i64 0, .bool false, .bool false, .int .i64 0, .slice none 0 0, .slice none 0 0, .int .i64 0] 51)) (w.heap.size + 1) [.int .i64 op, .int .i64 (D : Int), .int .i64 (a : Int), .int .i64 k] := (by have := (Bx.alloc (Bx.new (w.alloc (Obj.cells #[(.slice (some ⟨g1, o1, none⟩) 4 c1), .int .i64 m.pc, (.slice (some ⟨g2, o2, none⟩) 64 c2), .int .i64 m.save, .bool m.lets, .bool m.waits, .int .i64 m.halt, (.slice A3 m.ins.length c3), (.slice A4 m.outs.length c4), .int .i64 m.count] 51)) #[.int .i64 op, .int .i64 (D : Int), .int .i64 (a : Int), .int .i64 k] 30) (by simp) #[.slice none 0 0, .int .i64 0, .slice none 0 0, .int .i64 0, .bool false, .bool false, .int .i64 0, .slice none 0 0, .slice none 0 0, .int .i64 0] 51); simpa using this)
      have hFi_0 : ∀ oo, ((((w.alloc (Obj.cells #[(.slice (some ⟨g1, o1, none⟩) 4 c1), .int .i64 m.pc, (.slice (some ⟨g2, o2, none⟩) 64 c2), .int .i64 m.save, .bool m.lets, .bool m.waits, .int .i64 m.halt, (.slice A3 m.ins.length c3), (.slice A4 m.outs.length c4), .int .i64 m.count] 51)).alloc (Obj.cells #[.int .i64 op, .int .i64 (D : Int), .int .i64 (a : Int), .int .i64 k] 30)).alloc (Obj.cells #[.slice none 0 0, .int .i64 0, .slice none 0 0, .int .i64 0, .bool false, .bool false, .int .i64 0, .slice none 0 0, .slice none 0 0, .int .i64 0] 51))).frozen? ⟨w.heap.size + 1, oo, none⟩ = false := (fz_alloc (fz_new (w.alloc (Obj.cells #[(.slice (some ⟨g1, o1, none⟩) 4 c1), .int .i64 m.pc, (.slice (some ⟨g2, o2, none⟩) 64 c2), .int .i64 m.save, .bool m.lets, .bool m.waits, .int .i64 m.halt, (.slice A3 m.ins.length c3), (.slice A4 m.outs.length c4), .int .i64 m.count] 51)) #[.int .i64 op, .int .i64 (D : Int), .int .i64 (a : Int), .int .i64 k] 30 (by first | rfl | (simp; done))) (by first | (simp; done) | (simp; omega)) (Obj.cells #[.slice none 0 0, .int .i64 0, .slice none 0 0, .int .i64 0, .bool false, .bool false, .int .i64 0, .slice none 0 0, .slice none 0 0, .int .i64 0] 51))
      have hBres_0 : Bx (((w.alloc (Obj.cells #[(.slice (some ⟨g1, o1, none⟩) 4 c1), .int .i64 m.pc, (.slice (some ⟨g2, o2, none⟩) 64 c2), .int .i64 m.save, .bool m.lets, .bool m.waits, .int .i64 m.halt, (.slice A3 m.ins.length c3), (.slice A4 m.outs.length c4), .int .i64 m.count] 51)).alloc (Obj.cells #[.int .i64 op, .int .i64 (D : Int), .int .i64 (a : Int), .int .i64 k] 30)).alloc (Obj.cells #[.slice none 0 0, .int .i64 0, .slice none 0 0, .int .i64 0, .bool false, .bool false, .int .i64 0, .slice none 0 0, .slice none 0 0, .int .i64 0] 51)) (w.heap.size + 1 + 1) [.slice none 0 0, .int .i64 0, .slice none 0 0, .int .i64 0, .bool false, .bool false, .int .i64 0, .slice none 0 0, .slice none 0 0, .int .i64 0] := (by have := (Bx.new ((w.alloc (Obj.cells #[(.slice (some ⟨g1, o1, none⟩) 4 c1), .int .i64 m.pc, (.slice (some ⟨g2, o2, none⟩) 64 c2), .int .i64 m.save, .bool m.lets, .bool m.waits, .int .i64 m.halt, (.slice A3 m.ins.length c3), (.slice A4 m.outs.length c4), .int .i64 m.count] 51)).alloc (Obj.cells #[.int .i64 op, .int .i64 (D : Int), .int .i64 (a : Int), .int .i64 k] 30)) #[.slice none 0 0, .int .i64 0, .slice none 0 0, .int .i64 0, .bool false, .bool false, .int .i64 0, .slice none 0 0, .slice none 0 0, .int .i64 0] 51); simpa using this)
      have hFres_0 : ∀ oo, ((((w.alloc (Obj.cells #[(.slice (some ⟨g1, o1, none⟩) 4 c1), .int .i64 m.pc, (.slice (some ⟨g2, o2, none⟩) 64 c2), .int .i64 m.save, .bool m.lets, .bool m.waits, .int .i64 m.halt, (.slice A3 m.ins.length c3), (.slice A4 m.outs.length c4), .int .i64 m.count] 51)).alloc (Obj.cells #[.int .i64 op, .int .i64 (D : Int), .int .i64 (a : Int), .int .i64 k] 30)).alloc (Obj.cells #[.slice none 0 0, .int .i64 0, .slice none 0 0, .int .i64 0, .bool false, .bool false, .int .i64 0, .slice none 0 0, .slice none 0 0, .int .i64 0] 51))).frozen? ⟨w.heap.size + 1 + 1, oo, none⟩ = false := (fz_new ((w.alloc (Obj.cells #[(.slice (some ⟨g1, o1, none⟩) 4 c1), .int .i64 m.pc, (.slice (some ⟨g2, o2, none⟩) 64 c2), .int .i64 m.save, .bool m.lets, .bool m.waits, .int .i64 m.halt, (.slice A3 m.ins.length c3), (.slice A4 m.outs.length c4), .int .i64 m.count] 51)).alloc (Obj.cells #[.int .i64 op, .int .i64 (D : Int), .int .i64 (a : Int), .int .i64 k] 30)) #[.slice none 0 0, .int .i64 0, .slice none 0 0, .int .i64 0, .bool false, .bool false, .int .i64 0, .slice none 0 0, .slice none 0 0, .int .i64 0] 51 (by first | rfl | (simp; done)))
      generalize (((w.alloc (Obj.cells #[(.slice (some ⟨g1, o1, none⟩) 4 c1), .int .i64 m.pc, (.slice (some ⟨g2, o2, none⟩) 64 c2), .int .i64 m.save, .bool m.lets, .bool m.waits, .int .i64 m.halt, (.slice A3 m.ins.length c3), (.slice A4 m.outs.length c4), .int .i64 m.count] 51)).alloc (Obj.cells #[.int .i64 op, .int .i64 (D : Int), .int .i64 (a : Int), .int .i64 k] 30)).alloc (Obj.cells #[.slice none 0 0, .int .i64 0, .slice none 0 0, .int .i64 0, .bool false, .bool false, .int .i64 0, .slice none 0 0, .slice none 0 0, .int .i64 0] 51)) = w0 at *
      have ht0 : Turn (mfoot g1 g2 (.slice A4 m.outs.length c4)) w w0 := Turn.of_ext he0 _
      have hM0 : Mach 3 lo ((w.heap.size) :: (w.heap.size + 1) :: (w.heap.size + 1 + 1) :: X) w0 g1 o1 c1 g2 o2 c2 (.slice A3 m.ins.length c3) (.slice A4 m.outs.length c4) m := hM.addXs he0 [w.heap.size, w.heap.size + 1, w.heap.size + 1 + 1] (by intro b hb; simp at hb; omega)
      have yg1 : g1 < w0.heap.size := by omega
      have yg2 : g2 < w0.heap.size := by omega
      have q1 : decide (0 < m.ins.length) = true := by simp [hin]
      obtain ⟨bi, oi, o3, rfl, hif, hbi, -, hci, -, e0, hM0⟩ := hM0.dropIns hin
      have HN := hide (show (m.ins[0]?).getD 0 = m.ins[0] by rw [List.getElem?_eq_getElem hin]; rfl)
      have hwd := hk.iw m.ins[0] (List.getElem_mem hin)
      have z0 : (0 : Int) < (m.ins.length : Int) := by omega
      have z1 : (1 : Int) ≤ (m.ins.length : Int) := by omega
      have ym : w.heap.size < w0.heap.size := by omega
      have xm0 := hBm_0 0 _ rfl
      have xm1 := hBm_0 1 _ rfl
      have xm2 := hBm_0 2 _ rfl
      have xm3 := hBm_0 3 _ rfl
      have xm4 := hBm_0 4 _ rfl
      have xm5 := hBm_0 5 _ rfl
      have xm6 := hBm_0 6 _ rfl
      have xm7 := hBm_0 7 _ rfl
      have xm8 := hBm_0 8 _ rfl
      have xm9 := hBm_0 9 _ rfl
      have fm := hFm_0
      have yi : w.heap.size + 1 < w0.heap.size := by omega
      have xi0 := hBi_0 0 _ rfl
      have xi1 := hBi_0 1 _ rfl
      have xi2 := hBi_0 2 _ rfl
      have xi3 := hBi_0 3 _ rfl
      have fi := hFi_0
      have yres : w.heap.size + 1 + 1 < w0.heap.size := by omega
      have xres0 := hBres_0 0 _ rfl
      have xres1 := hBres_0 1 _ rfl
      have xres2 := hBres_0 2 _ rfl
      have xres3 := hBres_0 3 _ rfl
      have xres4 := hBres_0 4 _ rfl
      have xres5 := hBres_0 5 _ rfl
      have xres6 := hBres_0 6 _ rfl
      have xres7 := hBres_0 7 _ rfl
      have xres8 := hBres_0 8 _ rfl
      have xres9 := hBres_0 9 _ rfl
      have fres := hFres_0
      go_upto_region 8 with fail
      clear xm0 xm1 xm2 xm3 xm4 xm5 xm6 xm7 xm8 xm9 ym
      clear fm
      clear xi0 xi1 xi2 xi3 yi
      clear fi
      clear xres0 xres1 xres2 xres3 xres4 xres5 xres6 xres7 xres8 xres9 yres
      clear fres
      try simp only [hif]
      clear hif
      have hM1 := hM0.far (p := ⟨w.heap.size, 7, none⟩) (by simp) (.slice (some ⟨bi, o3, none⟩) (m.ins.length - 1) (c3 - 1))
      have ht1 : Turn (mfoot g1 g2 (.slice A4 m.outs.length c4)) w (w0.setCell ⟨w.heap.size, 7, none⟩ (.slice (some ⟨bi, o3, none⟩) (m.ins.length - 1) (c3 - 1))) := ht0.set (.inr (by show w.heap.size ≤ w.heap.size; omega)) _
      have hs1 : w.heap.size + 3 ≤ (w0.setCell ⟨w.heap.size, 7, none⟩ (.slice (some ⟨bi, o3, none⟩) (m.ins.length - 1) (c3 - 1))).heap.size := by simp; omega
      have hBm_1 : Bx (w0.setCell ⟨w.heap.size, 7, none⟩ (.slice (some ⟨bi, o3, none⟩) (m.ins.length - 1) (c3 - 1))) (w.heap.size) [(.slice (some ⟨g1, o1, none⟩) 4 c1), .int .i64 m.pc, (.slice (some ⟨g2, o2, none⟩) 64 c2), .int .i64 m.save, .bool m.lets, .bool m.waits, .int .i64 m.halt, (.slice (some ⟨bi, o3, none⟩) (m.ins.length - 1) (c3 - 1)), (.slice A4 m.outs.length c4), .int .i64 m.count] := by have := Bx.put hBm_0 (j := 7) (by simp) (.slice (some ⟨bi, o3, none⟩) (m.ins.length - 1) (c3 - 1)); simpa using this
      have hFm_1 : ∀ oo, (w0.setCell ⟨w.heap.size, 7, none⟩ (.slice (some ⟨bi, o3, none⟩) (m.ins.length - 1) (c3 - 1))).frozen? ⟨w.heap.size, oo, none⟩ = false := fz_set hFm_0 _ _
      have hBi_1 : Bx (w0.setCell ⟨w.heap.size, 7, none⟩ (.slice (some ⟨bi, o3, none⟩) (m.ins.length - 1) (c3 - 1))) (w.heap.size + 1) [.int .i64 op, .int .i64 (D : Int), .int .i64 (a : Int), .int .i64 k] := hBi_0.setCell (by show w.heap.size ≠ w.heap.size + 1; omega) _
      have hFi_1 : ∀ oo, (w0.setCell ⟨w.heap.size, 7, none⟩ (.slice (some ⟨bi, o3, none⟩) (m.ins.length - 1) (c3 - 1))).frozen? ⟨w.heap.size + 1, oo, none⟩ = false := fz_set hFi_0 _ _
      have hBres_1 : Bx (w0.setCell ⟨w.heap.size, 7, none⟩ (.slice (some ⟨bi, o3, none⟩) (m.ins.length - 1) (c3 - 1))) (w.heap.size + 1 + 1) [.slice none 0 0, .int .i64 0, .slice none 0 0, .int .i64 0, .bool false, .bool false, .int .i64 0, .slice none 0 0, .slice none 0 0, .int .i64 0] := hBres_0.setCell (by show w.heap.size ≠ w.heap.size + 1 + 1; omega) _
      have hFres_1 : ∀ oo, (w0.setCell ⟨w.heap.size, 7, none⟩ (.slice (some ⟨bi, o3, none⟩) (m.ins.length - 1) (c3 - 1))).frozen? ⟨w.heap.size + 1 + 1, oo, none⟩ = false := fz_set hFres_0 _ _
      generalize (w0.setCell ⟨w.heap.size, 7, none⟩ (.slice (some ⟨bi, o3, none⟩) (m.ins.length - 1) (c3 - 1))) = w1 at *
      clear hBm_0 hFm_0 hBi_0 hFi_0 hBres_0 hFres_0
      have ym : w.heap.size < w1.heap.size := by omega
      have xm0 := hBm_1 0 _ rfl
      have xm1 := hBm_1 1 _ rfl
      have xm2 := hBm_1 2 _ rfl
      have xm3 := hBm_1 3 _ rfl
      have xm4 := hBm_1 4 _ rfl
      have xm5 := hBm_1 5 _ rfl
      have xm6 := hBm_1 6 _ rfl
      have xm7 := hBm_1 7 _ rfl
      have xm8 := hBm_1 8 _ rfl
      have xm9 := hBm_1 9 _ rfl
      have yi : w.heap.size + 1 < w1.heap.size := by omega
      have xi0 := hBi_1 0 _ rfl
      have xi1 := hBi_1 1 _ rfl
      have xi2 := hBi_1 2 _ rfl
      have xi3 := hBi_1 3 _ rfl
      go_wp2_with fail
      refine (l3Set_any ({ m with ins := m.ins.drop 1 } : MchMach) _ _ _ _ _ _ _ _ lo _ _ hM1 ⟨hk.rl, hk.rw_, hk.p0, hk.p1, hk.ml, hk.mw, hk.s0, hk.s1, hk.h0, hk.h1, fun x hx => hk.iw x (List.mem_of_mem_drop hx), hk.ow, hk.c0, hk.c1⟩ hc D hD m.ins[0] hwd.1 hwd.2).mono ?_
      rintro e w2 ⟨rfl, hM2, hy⟩
      clear xm0 xm1 xm2 xm3 xm4 xm5 xm6 xm7 xm8 xm9 ym
      clear xi0 xi1 xi2 xi3 yi
      have hs2 := hy.size
      try simp at hs2
      have ht2 : Turn (mfoot g1 g2 (.slice A4 m.outs.length c4)) w w2 := (Turn.hold ht1).trans hy (fun x hx => .inl (by unfold mfoot; simp at hx ⊢; simp [hx]))
      have hBres_2 : Bx w2 (w.heap.size + 1 + 1) [.slice none 0 0, .int .i64 0, .slice none 0 0, .int .i64 0, .bool false, .bool false, .int .i64 0, .slice none 0 0, .slice none 0 0, .int .i64 0] := hy.bx (Bx.hold hBres_1) (by first | omega | (simp; done) | (simp; omega)) (by simp; omega)
      have hFres_2 : ∀ oo, w2.frozen? ⟨w.heap.size + 1 + 1, oo, none⟩ = false := fun oo => (hy.frozen (by first | omega | (simp; done) | (simp; omega)) (by simp; omega)).trans ((fz_hold hFres_1) oo)
      try clear hBres_1 hFres_1
      have HW := hide (HV.out.trans (by rw [HN.out]))
      have yres : w.heap.size + 1 + 1 < w2.heap.size := by omega
      have xres0 := hBres_2 0 _ rfl
      have xres1 := hBres_2 1 _ rfl
      have xres2 := hBres_2 2 _ rfl
      have xres3 := hBres_2 3 _ rfl
      have xres4 := hBres_2 4 _ rfl
      have xres5 := hBres_2 5 _ rfl
      have xres6 := hBres_2 6 _ rfl
      have xres7 := hBres_2 7 _ rfl
      have xres8 := hBres_2 8 _ rfl
      have xres9 := hBres_2 9 _ rfl
      have fres := hFres_2
      go_wp2
      refine bodyPost_ret (v := .agg #[(.slice (some ⟨g1, o1, none⟩) 4 c1), .int .i64 (((({ m with ins := m.ins.drop 1 } : MchMach).setR (D : Int) m.ins[0]).next (m.pc + 1)).pc), (.slice (some ⟨g2, o2, none⟩) 64 c2), .int .i64 (((({ m with ins := m.ins.drop 1 } : MchMach).setR (D : Int) m.ins[0]).next (m.pc + 1)).save), .bool ((({ m with ins := m.ins.drop 1 } : MchMach).setR (D : Int) m.ins[0]).next (m.pc + 1)).lets, .bool ((({ m with ins := m.ins.drop 1 } : MchMach).setR (D : Int) m.ins[0]).next (m.pc + 1)).waits, .int .i64 (((({ m with ins := m.ins.drop 1 } : MchMach).setR (D : Int) m.ins[0]).next (m.pc + 1)).halt), (.slice (some ⟨bi, o3, none⟩) (m.ins.length - 1) (c3 - 1)), (.slice A4 m.outs.length c4), .int .i64 (((({ m with ins := m.ins.drop 1 } : MchMach).setR (D : Int) m.ins[0]).next (m.pc + 1)).count)]) (by simp [results, Tryd.results116, go_sem, MchMach.next, MchMach.setR, xres0, xres1, xres2, xres3, xres4, xres5, xres6, xres7, xres8, xres9]) rfl ⟨_, _, by rw [HW.out], by rw [HW.out]; exact Mach.dropX (Mach.dropX (Mach.dropX (Mach.hold hM2))), Turn.hold ht2, fun q hq => .inl hq⟩
    · 
      go_enter Tryd.func116, Tryd.ntmps116
      go_upto_region 1 with fail
      have he0 : Ext w (((w.alloc (Obj.cells #[(.slice (some ⟨g1, o1, none⟩) 4 c1), .int .i64 m.pc, (.slice (some ⟨g2, o2, none⟩) 64 c2), .int .i64 m.save, .bool m.lets, .bool m.waits, .int .i64 m.halt, (.slice A3 m.ins.length c3), (.slice A4 m.outs.length c4), .int .i64 m.count] 51)).alloc (Obj.cells #[.int .i64 op, .int .i64 (D : Int), .int .i64 (a : Int), .int .i64 k] 30)).alloc (Obj.cells #[.slice none 0 0, .int .i64 0, .slice none 0 0, .int .i64 0, .bool false, .bool false, .int .i64 0, .slice none 0 0, .slice none 0 0, .int .i64 0] 51)) := (Ext.auto)
      have hs0 : w.heap.size + 3 ≤ ((((w.alloc (Obj.cells #[(.slice (some ⟨g1, o1, none⟩) 4 c1), .int .i64 m.pc, (.slice (some ⟨g2, o2, none⟩) 64 c2), .int .i64 m.save, .bool m.lets, .bool m.waits, .int .i64 m.halt, (.slice A3 m.ins.length c3), (.slice A4 m.outs.length c4), .int .i64 m.count] 51)).alloc (Obj.cells #[.int .i64 op, .int .i64 (D : Int), .int .i64 (a : Int), .int .i64 k] 30)).alloc (Obj.cells #[.slice none 0 0, .int .i64 0, .slice none 0 0, .int .i64 0, .bool false, .bool false, .int .i64 0, .slice none 0 0, .slice none 0 0, .int .i64 0] 51))).heap.size := by simp
      have hq0 := hide (show ((((w.alloc (Obj.cells #[(.slice (some ⟨g1, o1, none⟩) 4 c1), .int .i64 m.pc, (.slice (some ⟨g2, o2, none⟩) 64 c2), .int .i64 m.save, .bool m.lets, .bool m.waits, .int .i64 m.halt, (.slice A3 m.ins.length c3), (.slice A4 m.outs.length c4), .int .i64 m.count] 51)).alloc (Obj.cells #[.int .i64 op, .int .i64 (D : Int), .int .i64 (a : Int), .int .i64 k] 30)).alloc (Obj.cells #[.slice none 0 0, .int .i64 0, .slice none 0 0, .int .i64 0, .bool false, .bool false, .int .i64 0, .slice none 0 0, .slice none 0 0, .int .i64 0] 51))).heap.size = w.heap.size + 3 by simp)
      have hBm_0 : Bx (((w.alloc (Obj.cells #[(.slice (some ⟨g1, o1, none⟩) 4 c1), .int .i64 m.pc, (.slice (some ⟨g2, o2, none⟩) 64 c2), .int .i64 m.save, .bool m.lets, .bool m.waits, .int .i64 m.halt, (.slice A3 m.ins.length c3), (.slice A4 m.outs.length c4), .int .i64 m.count] 51)).alloc (Obj.cells #[.int .i64 op, .int .i64 (D : Int), .int .i64 (a : Int), .int .i64 k] 30)).alloc (Obj.cells #[.slice none 0 0, .int .i64 0, .slice none 0 0, .int .i64 0, .bool false, .bool false, .int .i64 0, .slice none 0 0, .slice none 0 0, .int .i64 0] 51)) (w.heap.size) [(.slice (some ⟨g1, o1, none⟩) 4 c1), .int .i64 m.pc, (.slice (some ⟨g2, o2, none⟩) 64 c2), .int .i64 m.save, .bool m.lets, .bool m.waits, .int .i64 m.halt, (.slice A3 m.ins.length c3), (.slice A4 m.outs.length c4), .int .i64 m.count] := (by have := (Bx.alloc (Bx.alloc (Bx.new w #[(.slice (some ⟨g1, o1, none⟩) 4 c1), .int .i64 m.pc, (.slice (some ⟨g2, o2, none⟩) 64 c2), .int .i64 m.save, .bool m.lets, .bool m.waits, .int .i64 m.halt, (.slice A3 m.ins.length c3), (.slice A4 m.outs.length c4), .int .i64 m.count] 51) (by simp) #[.int .i64 op, .int .i64 (D : Int), .int .i64 (a : Int), .int .i64 k] 30) (by first | (simp; done) | (simp; omega)) #[.slice none 0 0, .int .i64 0, .slice none 0 0, .int .i64 0, .bool false, .bool false, .int .i64 0, .slice none 0 0, .slice none 0 0, .int .i64 0] 51); simpa using this)
      have hFm_0 : ∀ oo, ((((w.alloc (Obj.cells #[(.slice (some ⟨g1, o1, none⟩) 4 c1), .int .i64 m.pc, (.slice (some ⟨g2, o2, none⟩) 64 c2), .int .i64 m.save, .bool m.lets, .bool m.waits, .int .i64 m.halt, (.slice A3 m.ins.length c3), (.slice A4 m.outs.length c4), .int .i64 m.count] 51)).alloc (Obj.cells #[.int .i64 op, .int .i64 (D : Int), .int .i64 (a : Int), .int .i64 k] 30)).alloc (Obj.cells #[.slice none 0 0, .int .i64 0, .slice none 0 0, .int .i64 0, .bool false, .bool false, .int .i64 0, .slice none 0 0, .slice none 0 0, .int .i64 0] 51))).frozen? ⟨w.heap.size, oo, none⟩ = false := (fz_alloc (fz_alloc (fz_new w #[(.slice (some ⟨g1, o1, none⟩) 4 c1), .int .i64 m.pc, (.slice (some ⟨g2, o2, none⟩) 64 c2), .int .i64 m.save, .bool m.lets, .bool m.waits, .int .i64 m.halt, (.slice A3 m.ins.length c3), (.slice A4 m.outs.length c4), .int .i64 m.count] 51 (by first | rfl | (simp; done))) (by first | (simp; done) | (simp; omega)) (Obj.cells #[.int .i64 op, .int .i64 (D : Int), .int .i64 (a : Int), .int .i64 k] 30)) (by first | (simp; done) | (simp; omega)) (Obj.cells #[.slice none 0 0, .int .i64 0, .slice none 0 0, .int .i64 0, .bool false, .bool false, .int .i64 0, .slice none 0 0, .slice none 0 0, .int .i64 0] 51))
      have hBi_0 : Bx (((w.alloc (Obj.cells #[(.slice (some ⟨g1, o1, none⟩) 4 c1), .int .i64 m.pc, (.slice (some ⟨g2, o2, none⟩) 64 c2), .int .i64 m.save, .bool m.lets, .bool m.waits, .int .i64 m.halt, (.slice A3 m.ins.length c3), (.slice A4 m.outs.length c4), .int .i64 m.count] 51)).alloc (Obj.cells #[.int .i64 op, .int .i64 (D : Int), .int .i64 (a : Int), .int .i64 k] 30)).alloc (Obj.cells #[.slice none 0 0, .int .i64 0, .slice none 0 0, .int .i64 0, .bool false, .bool false, .int .i64 0, .slice none 0 0, .slice none 0 0, .int .i64 0] 51)) (w.heap.size + 1) [.int .i64 op, .int .i64 (D : Int), .int .i64 (a : Int), .int .i64 k] := (by have := (Bx.alloc (Bx.new (w.alloc (Obj.cells #[(.slice (some ⟨g1, o1, none⟩) 4 c1), .int .i64 m.pc, (.slice (some ⟨g2, o2, none⟩) 64 c2), .int .i64 m.save, .bool m.lets, .bool m.waits, .int .i64 m.halt, (.slice A3 m.ins.length c3), (.slice A4 m.outs.length c4), .int .i64 m.count] 51)) #[.int .i64 op, .int .i64 (D : Int), .int .i64 (a : Int), .int .i64 k] 30) (by simp) #[.slice none 0 0, .int .i64 0, .slice none 0 0, .int .i64 0, .bool false, .bool false, .int .i64 0, .slice none 0 0, .slice none 0 0, .int .i64 0] 51); simpa using this)
      have hFi_0 : ∀ oo, ((((w.alloc (Obj.cells #[(.slice (some ⟨g1, o1, none⟩) 4 c1), .int .i64 m.pc, (.slice (some ⟨g2, o2, none⟩) 64 c2), .int .i64 m.save, .bool m.lets, .bool m.waits, .int .i64 m.halt, (.slice A3 m.ins.length c3), (.slice A4 m.outs.length c4), .int .i64 m.count] 51)).alloc (Obj.cells #[.int .i64 op, .int .i64 (D : Int), .int .i64 (a : Int), .int .i64 k] 30)).alloc (Obj.cells #[.slice none 0 0, .int .i64 0, .slice none 0 0, .int .i64 0, .bool false, .bool false, .int .i64 0, .slice none 0 0, .slice none 0 0, .int .i64 0] 51))).frozen? ⟨w.heap.size + 1, oo, none⟩ = false := (fz_alloc (fz_new (w.alloc (Obj.cells #[(.slice (some ⟨g1, o1, none⟩) 4 c1), .int .i64 m.pc, (.slice (some ⟨g2, o2, none⟩) 64 c2), .int .i64 m.save, .bool m.lets, .bool m.waits, .int .i64 m.halt, (.slice A3 m.ins.length c3), (.slice A4 m.outs.length c4), .int .i64 m.count] 51)) #[.int .i64 op, .int .i64 (D : Int), .int .i64 (a : Int), .int .i64 k] 30 (by first | rfl | (simp; done))) (by first | (simp; done) | (simp; omega)) (Obj.cells #[.slice none 0 0, .int .i64 0, .slice none 0 0, .int .i64 0, .bool false, .bool false, .int .i64 0, .slice none 0 0, .slice none 0 0, .int .i64 0] 51))
      have hBres_0 : Bx (((w.alloc (Obj.cells #[(.slice (some ⟨g1, o1, none⟩) 4 c1), .int .i64 m.pc, (.slice (some ⟨g2, o2, none⟩) 64 c2), .int .i64 m.save, .bool m.lets, .bool m.waits, .int .i64 m.halt, (.slice A3 m.ins.length c3), (.slice A4 m.outs.length c4), .int .i64 m.count] 51)).alloc (Obj.cells #[.int .i64 op, .int .i64 (D : Int), .int .i64 (a : Int), .int .i64 k] 30)).alloc (Obj.cells #[.slice none 0 0, .int .i64 0, .slice none 0 0, .int .i64 0, .bool false, .bool false, .int .i64 0, .slice none 0 0, .slice none 0 0, .int .i64 0] 51)) (w.heap.size + 1 + 1) [.slice none 0 0, .int .i64 0, .slice none 0 0, .int .i64 0, .bool false, .bool false, .int .i64 0, .slice none 0 0, .slice none 0 0, .int .i64 0] := (by have := (Bx.new ((w.alloc (Obj.cells #[(.slice (some ⟨g1, o1, none⟩) 4 c1), .int .i64 m.pc, (.slice (some ⟨g2, o2, none⟩) 64 c2), .int .i64 m.save, .bool m.lets, .bool m.waits, .int .i64 m.halt, (.slice A3 m.ins.length c3), (.slice A4 m.outs.length c4), .int .i64 m.count] 51)).alloc (Obj.cells #[.int .i64 op, .int .i64 (D : Int), .int .i64 (a : Int), .int .i64 k] 30)) #[.slice none 0 0, .int .i64 0, .slice none 0 0, .int .i64 0, .bool false, .bool false, .int .i64 0, .slice none 0 0, .slice none 0 0, .int .i64 0] 51); simpa using this)
      have hFres_0 : ∀ oo, ((((w.alloc (Obj.cells #[(.slice (some ⟨g1, o1, none⟩) 4 c1), .int .i64 m.pc, (.slice (some ⟨g2, o2, none⟩) 64 c2), .int .i64 m.save, .bool m.lets, .bool m.waits, .int .i64 m.halt, (.slice A3 m.ins.length c3), (.slice A4 m.outs.length c4), .int .i64 m.count] 51)).alloc (Obj.cells #[.int .i64 op, .int .i64 (D : Int), .int .i64 (a : Int), .int .i64 k] 30)).alloc (Obj.cells #[.slice none 0 0, .int .i64 0, .slice none 0 0, .int .i64 0, .bool false, .bool false, .int .i64 0, .slice none 0 0, .slice none 0 0, .int .i64 0] 51))).frozen? ⟨w.heap.size + 1 + 1, oo, none⟩ = false := (fz_new ((w.alloc (Obj.cells #[(.slice (some ⟨g1, o1, none⟩) 4 c1), .int .i64 m.pc, (.slice (some ⟨g2, o2, none⟩) 64 c2), .int .i64 m.save, .bool m.lets, .bool m.waits, .int .i64 m.halt, (.slice A3 m.ins.length c3), (.slice A4 m.outs.length c4), .int .i64 m.count] 51)).alloc (Obj.cells #[.int .i64 op, .int .i64 (D : Int), .int .i64 (a : Int), .int .i64 k] 30)) #[.slice none 0 0, .int .i64 0, .slice none 0 0, .int .i64 0, .bool false, .bool false, .int .i64 0, .slice none 0 0, .slice none 0 0, .int .i64 0] 51 (by first | rfl | (simp; done)))
      generalize (((w.alloc (Obj.cells #[(.slice (some ⟨g1, o1, none⟩) 4 c1), .int .i64 m.pc, (.slice (some ⟨g2, o2, none⟩) 64 c2), .int .i64 m.save, .bool m.lets, .bool m.waits, .int .i64 m.halt, (.slice A3 m.ins.length c3), (.slice A4 m.outs.length c4), .int .i64 m.count] 51)).alloc (Obj.cells #[.int .i64 op, .int .i64 (D : Int), .int .i64 (a : Int), .int .i64 k] 30)).alloc (Obj.cells #[.slice none 0 0, .int .i64 0, .slice none 0 0, .int .i64 0, .bool false, .bool false, .int .i64 0, .slice none 0 0, .slice none 0 0, .int .i64 0] 51)) = w0 at *
      have ht0 : Turn (mfoot g1 g2 (.slice A4 m.outs.length c4)) w w0 := Turn.of_ext he0 _
      have hM0 : Mach 3 lo ((w.heap.size) :: (w.heap.size + 1) :: (w.heap.size + 1 + 1) :: X) w0 g1 o1 c1 g2 o2 c2 (.slice A3 m.ins.length c3) (.slice A4 m.outs.length c4) m := hM.addXs he0 [w.heap.size, w.heap.size + 1, w.heap.size + 1 + 1] (by intro b hb; simp at hb; omega)
      have yg1 : g1 < w0.heap.size := by omega
      have yg2 : g2 < w0.heap.size := by omega
      have q1 : decide (0 < m.ins.length) = false := decide_eq_false (by omega)
      have hnil : m.ins = [] := List.eq_nil_of_length_eq_zero (by omega)
      have HN := hide (show (m.ins[0]?).getD 0 = 0 by rw [hnil]; rfl)
      have HE := hide (show ({ m with ins := m.ins.drop 1 } : MchMach) = m by cases m; simp only at hnil; subst hnil; rfl)
      clear hnil
      have ym : w.heap.size < w0.heap.size := by omega
      have xm0 := hBm_0 0 _ rfl
      have xm1 := hBm_0 1 _ rfl
      have xm2 := hBm_0 2 _ rfl
      have xm3 := hBm_0 3 _ rfl
      have xm4 := hBm_0 4 _ rfl
      have xm5 := hBm_0 5 _ rfl
      have xm6 := hBm_0 6 _ rfl
      have xm7 := hBm_0 7 _ rfl
      have xm8 := hBm_0 8 _ rfl
      have xm9 := hBm_0 9 _ rfl
      have fm := hFm_0
      have yi : w.heap.size + 1 < w0.heap.size := by omega
      have xi0 := hBi_0 0 _ rfl
      have xi1 := hBi_0 1 _ rfl
      have xi2 := hBi_0 2 _ rfl
      have xi3 := hBi_0 3 _ rfl
      have fi := hFi_0
      have yres : w.heap.size + 1 + 1 < w0.heap.size := by omega
      have xres0 := hBres_0 0 _ rfl
      have xres1 := hBres_0 1 _ rfl
      have xres2 := hBres_0 2 _ rfl
      have xres3 := hBres_0 3 _ rfl
      have xres4 := hBres_0 4 _ rfl
      have xres5 := hBres_0 5 _ rfl
      have xres6 := hBres_0 6 _ rfl
      have xres7 := hBres_0 7 _ rfl
      have xres8 := hBres_0 8 _ rfl
      have xres9 := hBres_0 9 _ rfl
      have fres := hFres_0
      go_upto_region 8 with fail
      clear xm0 xm1 xm2 xm3 xm4 xm5 xm6 xm7 xm8 xm9 ym
      clear fm
      clear xi0 xi1 xi2 xi3 yi
      clear fi
      clear xres0 xres1 xres2 xres3 xres4 xres5 xres6 xres7 xres8 xres9 yres
      clear fres
      have hM1 := hM0
      have ym : w.heap.size < w0.heap.size := by omega
      have xm0 := hBm_0 0 _ rfl
      have xm1 := hBm_0 1 _ rfl
      have xm2 := hBm_0 2 _ rfl
      have xm3 := hBm_0 3 _ rfl
      have xm4 := hBm_0 4 _ rfl
      have xm5 := hBm_0 5 _ rfl
      have xm6 := hBm_0 6 _ rfl
      have xm7 := hBm_0 7 _ rfl
      have xm8 := hBm_0 8 _ rfl
      have xm9 := hBm_0 9 _ rfl
      have yi : w.heap.size + 1 < w0.heap.size := by omega
      have xi0 := hBi_0 0 _ rfl
      have xi1 := hBi_0 1 _ rfl
      have xi2 := hBi_0 2 _ rfl
      have xi3 := hBi_0 3 _ rfl
      go_wp2_with fail
      refine (l3Set_any m _ _ _ _ _ _ _ _ lo _ _ hM1 hk hc D hD 0 (by omega) (by omega)).mono ?_
      rintro e w1 ⟨rfl, hM2, hy⟩
      clear xm0 xm1 xm2 xm3 xm4 xm5 xm6 xm7 xm8 xm9 ym
      clear xi0 xi1 xi2 xi3 yi
      have hs1 := hy.size
      try simp at hs1
      have ht1 : Turn (mfoot g1 g2 (.slice A4 m.outs.length c4)) w w1 := (Turn.hold ht0).trans hy (fun x hx => .inl (by unfold mfoot; simp at hx ⊢; simp [hx]))
      have hBres_1 : Bx w1 (w.heap.size + 1 + 1) [.slice none 0 0, .int .i64 0, .slice none 0 0, .int .i64 0, .bool false, .bool false, .int .i64 0, .slice none 0 0, .slice none 0 0, .int .i64 0] := hy.bx (Bx.hold hBres_0) (by first | omega | (simp; done) | (simp; omega)) (by simp; omega)
      have hFres_1 : ∀ oo, w1.frozen? ⟨w.heap.size + 1 + 1, oo, none⟩ = false := fun oo => (hy.frozen (by first | omega | (simp; done) | (simp; omega)) (by simp; omega)).trans ((fz_hold hFres_0) oo)
      try clear hBres_0 hFres_0
      have HW := hide (HV.out.trans (by rw [HN.out, HE.out]))
      have yres : w.heap.size + 1 + 1 < w1.heap.size := by omega
      have xres0 := hBres_1 0 _ rfl
      have xres1 := hBres_1 1 _ rfl
      have xres2 := hBres_1 2 _ rfl
      have xres3 := hBres_1 3 _ rfl
      have xres4 := hBres_1 4 _ rfl
      have xres5 := hBres_1 5 _ rfl
      have xres6 := hBres_1 6 _ rfl
      have xres7 := hBres_1 7 _ rfl
      have xres8 := hBres_1 8 _ rfl
      have xres9 := hBres_1 9 _ rfl
      have fres := hFres_1
      go_wp2
      refine bodyPost_ret (v := .agg #[(.slice (some ⟨g1, o1, none⟩) 4 c1), .int .i64 (((m.setR (D : Int) 0).next (m.pc + 1)).pc), (.slice (some ⟨g2, o2, none⟩) 64 c2), .int .i64 (((m.setR (D : Int) 0).next (m.pc + 1)).save), .bool ((m.setR (D : Int) 0).next (m.pc + 1)).lets, .bool ((m.setR (D : Int) 0).next (m.pc + 1)).waits, .int .i64 (((m.setR (D : Int) 0).next (m.pc + 1)).halt), (.slice A3 m.ins.length c3), (.slice A4 m.outs.length c4), .int .i64 (((m.setR (D : Int) 0).next (m.pc + 1)).count)]) (by simp [results, Tryd.results116, go_sem, MchMach.next, MchMach.setR, xres0, xres1, xres2, xres3, xres4, xres5, xres6, xres7, xres8, xres9]) rfl ⟨_, _, by rw [HW.out], by rw [HW.out]; exact Mach.dropX (Mach.dropX (Mach.dropX (Mach.hold hM2))), Turn.hold ht1, fun q hq => .inl hq⟩

set_option maxHeartbeats 16000000 in
theorem l3Reach_any (m : MchMach) (g1 o1 c1 g2 o2 c2 : Nat) (v3 v4 : Value) (lo : Nat) (X : List Nat) (w : World) (hM : Mach 3 lo X w g1 o1 c1 g2 o2 c2 v3 v4 m) (hk : MOk m) (hc : m.count < 1000000) (hn4 : m.outs.length ≤ 4194304) (op : Int) (D a : Nat) (k : Int) (hD : D < 4) (ha : a < 4) (hk0 : 0 ≤ k) (hk1 : k ≤ 255) :
    Calls Tryd.prog 114 #[.agg #[(.slice (some ⟨g1, o1, none⟩) 4 c1), .int .i64 m.pc, (.slice (some ⟨g2, o2, none⟩) 64 c2), .int .i64 m.save, .bool m.lets, .bool m.waits, .int .i64 m.halt, v3, v4, .int .i64 m.count], .agg #[.int .i64 op, .int .i64 (D : Int), .int .i64 (a : Int), .int .i64 k]] w fun e w' => ∃ v3' v4', e = .returned (.agg #[(.slice (some ⟨g1, o1, none⟩) 4 c1), .int .i64 ((mReach m ⟨op, (D : Int), (a : Int), k⟩).pc), (.slice (some ⟨g2, o2, none⟩) 64 c2), .int .i64 ((mReach m ⟨op, (D : Int), (a : Int), k⟩).save), .bool (mReach m ⟨op, (D : Int), (a : Int), k⟩).lets, .bool (mReach m ⟨op, (D : Int), (a : Int), k⟩).waits, .int .i64 ((mReach m ⟨op, (D : Int), (a : Int), k⟩).halt), v3', v4', .int .i64 ((mReach m ⟨op, (D : Int), (a : Int), k⟩).count)]) ∧ Mach 3 lo X w' g1 o1 c1 g2 o2 c2 v3' v4' (mReach m ⟨op, (D : Int), (a : Int), k⟩) ∧ Turn (mfoot g1 g2 v4) w w' ∧ (∀ q, v4'.ownBlock = some q → v4.ownBlock = some q ∨ w.heap.size ≤ q) := by
  obtain ⟨A3, c3, rfl, hl3, hm3⟩ := hM.form3
  obtain ⟨A4, c4, rfl, hl4, hm4⟩ := hM.form4
  unfold maxLen at hm3 hm4
  have hp0 := hk.p0
  have hp1 := hk.p1
  have hc0 := hk.c0
  have hlt := hM.lt
  have hlt1 := hlt.1
  have hlt2 := hlt.2.1
  have hgl1 := hlt.2.2.1
  have hgl2 := hlt.2.2.2.1
  have hown : ∀ q, (Value.slice A4 m.outs.length c4).ownBlock = some q → q < w.heap.size := fun q hq => (hlt.2.2.2.2 q (by unfold mfoot; simp [hq])).2
  have hfoot : ∀ x, x ∈ mfoot g1 g2 (Value.slice A4 m.outs.length c4) → x < w.heap.size := fun x hx => (hlt.2.2.2.2 x hx).2
  clear hlt
  go_enter Tryd.func114, Tryd.ntmps114
  go_upto_region 1 with fail
  have he0 : Ext w (((w.alloc (Obj.cells #[(.slice (some ⟨g1, o1, none⟩) 4 c1), .int .i64 m.pc, (.slice (some ⟨g2, o2, none⟩) 64 c2), .int .i64 m.save, .bool m.lets, .bool m.waits, .int .i64 m.halt, (.slice A3 m.ins.length c3), (.slice A4 m.outs.length c4), .int .i64 m.count] 51)).alloc (Obj.cells #[.int .i64 op, .int .i64 (D : Int), .int .i64 (a : Int), .int .i64 k] 30)).alloc (Obj.cells #[.slice none 0 0, .int .i64 0, .slice none 0 0, .int .i64 0, .bool false, .bool false, .int .i64 0, .slice none 0 0, .slice none 0 0, .int .i64 0] 51)) := (Ext.auto)
  have hs0 : w.heap.size + 3 ≤ ((((w.alloc (Obj.cells #[(.slice (some ⟨g1, o1, none⟩) 4 c1), .int .i64 m.pc, (.slice (some ⟨g2, o2, none⟩) 64 c2), .int .i64 m.save, .bool m.lets, .bool m.waits, .int .i64 m.halt, (.slice A3 m.ins.length c3), (.slice A4 m.outs.length c4), .int .i64 m.count] 51)).alloc (Obj.cells #[.int .i64 op, .int .i64 (D : Int), .int .i64 (a : Int), .int .i64 k] 30)).alloc (Obj.cells #[.slice none 0 0, .int .i64 0, .slice none 0 0, .int .i64 0, .bool false, .bool false, .int .i64 0, .slice none 0 0, .slice none 0 0, .int .i64 0] 51))).heap.size := by simp
  have hq0 := hide (show ((((w.alloc (Obj.cells #[(.slice (some ⟨g1, o1, none⟩) 4 c1), .int .i64 m.pc, (.slice (some ⟨g2, o2, none⟩) 64 c2), .int .i64 m.save, .bool m.lets, .bool m.waits, .int .i64 m.halt, (.slice A3 m.ins.length c3), (.slice A4 m.outs.length c4), .int .i64 m.count] 51)).alloc (Obj.cells #[.int .i64 op, .int .i64 (D : Int), .int .i64 (a : Int), .int .i64 k] 30)).alloc (Obj.cells #[.slice none 0 0, .int .i64 0, .slice none 0 0, .int .i64 0, .bool false, .bool false, .int .i64 0, .slice none 0 0, .slice none 0 0, .int .i64 0] 51))).heap.size = w.heap.size + 3 by simp)
  have hBm_0 : Bx (((w.alloc (Obj.cells #[(.slice (some ⟨g1, o1, none⟩) 4 c1), .int .i64 m.pc, (.slice (some ⟨g2, o2, none⟩) 64 c2), .int .i64 m.save, .bool m.lets, .bool m.waits, .int .i64 m.halt, (.slice A3 m.ins.length c3), (.slice A4 m.outs.length c4), .int .i64 m.count] 51)).alloc (Obj.cells #[.int .i64 op, .int .i64 (D : Int), .int .i64 (a : Int), .int .i64 k] 30)).alloc (Obj.cells #[.slice none 0 0, .int .i64 0, .slice none 0 0, .int .i64 0, .bool false, .bool false, .int .i64 0, .slice none 0 0, .slice none 0 0, .int .i64 0] 51)) (w.heap.size) [(.slice (some ⟨g1, o1, none⟩) 4 c1), .int .i64 m.pc, (.slice (some ⟨g2, o2, none⟩) 64 c2), .int .i64 m.save, .bool m.lets, .bool m.waits, .int .i64 m.halt, (.slice A3 m.ins.length c3), (.slice A4 m.outs.length c4), .int .i64 m.count] := (by have := (Bx.alloc (Bx.alloc (Bx.new w #[(.slice (some ⟨g1, o1, none⟩) 4 c1), .int .i64 m.pc, (.slice (some ⟨g2, o2, none⟩) 64 c2), .int .i64 m.save, .bool m.lets, .bool m.waits, .int .i64 m.halt, (.slice A3 m.ins.length c3), (.slice A4 m.outs.length c4), .int .i64 m.count] 51) (by simp) #[.int .i64 op, .int .i64 (D : Int), .int .i64 (a : Int), .int .i64 k] 30) (by first | (simp; done) | (simp; omega)) #[.slice none 0 0, .int .i64 0, .slice none 0 0, .int .i64 0, .bool false, .bool false, .int .i64 0, .slice none 0 0, .slice none 0 0, .int .i64 0] 51); simpa using this)
  have hFm_0 : ∀ oo, ((((w.alloc (Obj.cells #[(.slice (some ⟨g1, o1, none⟩) 4 c1), .int .i64 m.pc, (.slice (some ⟨g2, o2, none⟩) 64 c2), .int .i64 m.save, .bool m.lets, .bool m.waits, .int .i64 m.halt, (.slice A3 m.ins.length c3), (.slice A4 m.outs.length c4), .int .i64 m.count] 51)).alloc (Obj.cells #[.int .i64 op, .int .i64 (D : Int), .int .i64 (a : Int), .int .i64 k] 30)).alloc (Obj.cells #[.slice none 0 0, .int .i64 0, .slice none 0 0, .int .i64 0, .bool false, .bool false, .int .i64 0, .slice none 0 0, .slice none 0 0, .int .i64 0] 51))).frozen? ⟨w.heap.size, oo, none⟩ = false := (fz_alloc (fz_alloc (fz_new w #[(.slice (some ⟨g1, o1, none⟩) 4 c1), .int .i64 m.pc, (.slice (some ⟨g2, o2, none⟩) 64 c2), .int .i64 m.save, .bool m.lets, .bool m.waits, .int .i64 m.halt, (.slice A3 m.ins.length c3), (.slice A4 m.outs.length c4), .int .i64 m.count] 51 (by first | rfl | (simp; done))) (by first | (simp; done) | (simp; omega)) (Obj.cells #[.int .i64 op, .int .i64 (D : Int), .int .i64 (a : Int), .int .i64 k] 30)) (by first | (simp; done) | (simp; omega)) (Obj.cells #[.slice none 0 0, .int .i64 0, .slice none 0 0, .int .i64 0, .bool false, .bool false, .int .i64 0, .slice none 0 0, .slice none 0 0, .int .i64 0] 51))
  have hBi_0 : Bx (((w.alloc (Obj.cells #[(.slice (some ⟨g1, o1, none⟩) 4 c1), .int .i64 m.pc, (.slice (some ⟨g2, o2, none⟩) 64 c2), .int .i64 m.save, .bool m.lets, .bool m.waits, .int .i64 m.halt, (.slice A3 m.ins.length c3), (.slice A4 m.outs.length c4), .int .i64 m.count] 51)).alloc (Obj.cells #[.int .i64 op, .int .i64 (D : Int), .int .i64 (a : Int), .int .i64 k] 30)).alloc (Obj.cells #[.slice none 0 0, .int .i64 0, .slice none 0 0, .int .i64 0, .bool false, .bool false, .int .i64 0, .slice none 0 0, .slice none 0 0, .int .i64 0] 51)) (w.heap.size + 1) [.int .i64 op, .int .i64 (D : Int), .int .i64 (a : Int), .int .i64 k] := (by have := (Bx.alloc (Bx.new (w.alloc (Obj.cells #[(.slice (some ⟨g1, o1, none⟩) 4 c1), .int .i64 m.pc, (.slice (some ⟨g2, o2, none⟩) 64 c2), .int .i64 m.save, .bool m.lets, .bool m.waits, .int .i64 m.halt, (.slice A3 m.ins.length c3), (.slice A4 m.outs.length c4), .int .i64 m.count] 51)) #[.int .i64 op, .int .i64 (D : Int), .int .i64 (a : Int), .int .i64 k] 30) (by simp) #[.slice none 0 0, .int .i64 0, .slice none 0 0, .int .i64 0, .bool false, .bool false, .int .i64 0, .slice none 0 0, .slice none 0 0, .int .i64 0] 51); simpa using this)
  have hFi_0 : ∀ oo, ((((w.alloc (Obj.cells #[(.slice (some ⟨g1, o1, none⟩) 4 c1), .int .i64 m.pc, (.slice (some ⟨g2, o2, none⟩) 64 c2), .int .i64 m.save, .bool m.lets, .bool m.waits, .int .i64 m.halt, (.slice A3 m.ins.length c3), (.slice A4 m.outs.length c4), .int .i64 m.count] 51)).alloc (Obj.cells #[.int .i64 op, .int .i64 (D : Int), .int .i64 (a : Int), .int .i64 k] 30)).alloc (Obj.cells #[.slice none 0 0, .int .i64 0, .slice none 0 0, .int .i64 0, .bool false, .bool false, .int .i64 0, .slice none 0 0, .slice none 0 0, .int .i64 0] 51))).frozen? ⟨w.heap.size + 1, oo, none⟩ = false := (fz_alloc (fz_new (w.alloc (Obj.cells #[(.slice (some ⟨g1, o1, none⟩) 4 c1), .int .i64 m.pc, (.slice (some ⟨g2, o2, none⟩) 64 c2), .int .i64 m.save, .bool m.lets, .bool m.waits, .int .i64 m.halt, (.slice A3 m.ins.length c3), (.slice A4 m.outs.length c4), .int .i64 m.count] 51)) #[.int .i64 op, .int .i64 (D : Int), .int .i64 (a : Int), .int .i64 k] 30 (by first | rfl | (simp; done))) (by first | (simp; done) | (simp; omega)) (Obj.cells #[.slice none 0 0, .int .i64 0, .slice none 0 0, .int .i64 0, .bool false, .bool false, .int .i64 0, .slice none 0 0, .slice none 0 0, .int .i64 0] 51))
  have hBres_0 : Bx (((w.alloc (Obj.cells #[(.slice (some ⟨g1, o1, none⟩) 4 c1), .int .i64 m.pc, (.slice (some ⟨g2, o2, none⟩) 64 c2), .int .i64 m.save, .bool m.lets, .bool m.waits, .int .i64 m.halt, (.slice A3 m.ins.length c3), (.slice A4 m.outs.length c4), .int .i64 m.count] 51)).alloc (Obj.cells #[.int .i64 op, .int .i64 (D : Int), .int .i64 (a : Int), .int .i64 k] 30)).alloc (Obj.cells #[.slice none 0 0, .int .i64 0, .slice none 0 0, .int .i64 0, .bool false, .bool false, .int .i64 0, .slice none 0 0, .slice none 0 0, .int .i64 0] 51)) (w.heap.size + 1 + 1) [.slice none 0 0, .int .i64 0, .slice none 0 0, .int .i64 0, .bool false, .bool false, .int .i64 0, .slice none 0 0, .slice none 0 0, .int .i64 0] := (by have := (Bx.new ((w.alloc (Obj.cells #[(.slice (some ⟨g1, o1, none⟩) 4 c1), .int .i64 m.pc, (.slice (some ⟨g2, o2, none⟩) 64 c2), .int .i64 m.save, .bool m.lets, .bool m.waits, .int .i64 m.halt, (.slice A3 m.ins.length c3), (.slice A4 m.outs.length c4), .int .i64 m.count] 51)).alloc (Obj.cells #[.int .i64 op, .int .i64 (D : Int), .int .i64 (a : Int), .int .i64 k] 30)) #[.slice none 0 0, .int .i64 0, .slice none 0 0, .int .i64 0, .bool false, .bool false, .int .i64 0, .slice none 0 0, .slice none 0 0, .int .i64 0] 51); simpa using this)
  have hFres_0 : ∀ oo, ((((w.alloc (Obj.cells #[(.slice (some ⟨g1, o1, none⟩) 4 c1), .int .i64 m.pc, (.slice (some ⟨g2, o2, none⟩) 64 c2), .int .i64 m.save, .bool m.lets, .bool m.waits, .int .i64 m.halt, (.slice A3 m.ins.length c3), (.slice A4 m.outs.length c4), .int .i64 m.count] 51)).alloc (Obj.cells #[.int .i64 op, .int .i64 (D : Int), .int .i64 (a : Int), .int .i64 k] 30)).alloc (Obj.cells #[.slice none 0 0, .int .i64 0, .slice none 0 0, .int .i64 0, .bool false, .bool false, .int .i64 0, .slice none 0 0, .slice none 0 0, .int .i64 0] 51))).frozen? ⟨w.heap.size + 1 + 1, oo, none⟩ = false := (fz_new ((w.alloc (Obj.cells #[(.slice (some ⟨g1, o1, none⟩) 4 c1), .int .i64 m.pc, (.slice (some ⟨g2, o2, none⟩) 64 c2), .int .i64 m.save, .bool m.lets, .bool m.waits, .int .i64 m.halt, (.slice A3 m.ins.length c3), (.slice A4 m.outs.length c4), .int .i64 m.count] 51)).alloc (Obj.cells #[.int .i64 op, .int .i64 (D : Int), .int .i64 (a : Int), .int .i64 k] 30)) #[.slice none 0 0, .int .i64 0, .slice none 0 0, .int .i64 0, .bool false, .bool false, .int .i64 0, .slice none 0 0, .slice none 0 0, .int .i64 0] 51 (by first | rfl | (simp; done)))
  generalize (((w.alloc (Obj.cells #[(.slice (some ⟨g1, o1, none⟩) 4 c1), .int .i64 m.pc, (.slice (some ⟨g2, o2, none⟩) 64 c2), .int .i64 m.save, .bool m.lets, .bool m.waits, .int .i64 m.halt, (.slice A3 m.ins.length c3), (.slice A4 m.outs.length c4), .int .i64 m.count] 51)).alloc (Obj.cells #[.int .i64 op, .int .i64 (D : Int), .int .i64 (a : Int), .int .i64 k] 30)).alloc (Obj.cells #[.slice none 0 0, .int .i64 0, .slice none 0 0, .int .i64 0, .bool false, .bool false, .int .i64 0, .slice none 0 0, .slice none 0 0, .int .i64 0] 51)) = w0 at *
  have ht0 : Turn (mfoot g1 g2 (.slice A4 m.outs.length c4)) w w0 := Turn.of_ext he0 _
  have hM0 : Mach 3 lo ((w.heap.size) :: (w.heap.size + 1) :: (w.heap.size + 1 + 1) :: X) w0 g1 o1 c1 g2 o2 c2 (.slice A3 m.ins.length c3) (.slice A4 m.outs.length c4) m := hM.addXs he0 [w.heap.size, w.heap.size + 1, w.heap.size + 1 + 1] (by intro b hb; simp at hb; omega)
  have yg1 : g1 < w0.heap.size := by omega
  have yg2 : g2 < w0.heap.size := by omega
  have rD := hM0.regAt hD
  have ra := hM0.regAt ha
  have fr1 := hM0.fz1
  have fr2 := hM0.fz2
  have hb0 := (hk.reg (a : Int)).1
  have hb1 := (hk.reg (a : Int)).2
  have z0 : (0 : Int) ≤ (D : Int) := by omega
  have z1 : (D : Int) < 4 := by omega
  have z2 : (0 : Int) ≤ (a : Int) := by omega
  have z3 : (a : Int) < 4 := by omega
  obtain ⟨Q, hQ'⟩ := Int.eq_ofNat_of_zero_le (show 0 ≤ (m.reg (a : Int) + k) % 65536 by omega)
  have hQ := hide hQ'
  clear hQ'
  by_cases h64 : 64 ≤ Q
  · 
    have HV := hide (show mReach m ⟨op, (D : Int), (a : Int), k⟩ = { m with halt := 3 } by unfold mReach; simp only [hQ.out]; rw [if_pos (by omega)])
    have q1 : decide (64 ≤ (Q : Int)) = true := decide_eq_true (by omega)
    have ym : w.heap.size < w0.heap.size := by omega
    have xm0 := hBm_0 0 _ rfl
    have xm1 := hBm_0 1 _ rfl
    have xm2 := hBm_0 2 _ rfl
    have xm3 := hBm_0 3 _ rfl
    have xm4 := hBm_0 4 _ rfl
    have xm5 := hBm_0 5 _ rfl
    have xm6 := hBm_0 6 _ rfl
    have xm7 := hBm_0 7 _ rfl
    have xm8 := hBm_0 8 _ rfl
    have xm9 := hBm_0 9 _ rfl
    have fm := hFm_0
    have yi : w.heap.size + 1 < w0.heap.size := by omega
    have xi0 := hBi_0 0 _ rfl
    have xi1 := hBi_0 1 _ rfl
    have xi2 := hBi_0 2 _ rfl
    have xi3 := hBi_0 3 _ rfl
    have fi := hFi_0
    have yres : w.heap.size + 1 + 1 < w0.heap.size := by omega
    have xres0 := hBres_0 0 _ rfl
    have xres1 := hBres_0 1 _ rfl
    have xres2 := hBres_0 2 _ rfl
    have xres3 := hBres_0 3 _ rfl
    have xres4 := hBres_0 4 _ rfl
    have xres5 := hBres_0 5 _ rfl
    have xres6 := hBres_0 6 _ rfl
    have xres7 := hBres_0 7 _ rfl
    have xres8 := hBres_0 8 _ rfl
    have xres9 := hBres_0 9 _ rfl
    have fres := hFres_0
    go_upto_region 1 with fail
    have hS : ∀ w', Ext w0 w' → ∀ bb oo, bb < w0.heap.size → w'.cell? ⟨bb, oo, none⟩ = w0.cell? ⟨bb, oo, none⟩ := fun w' hx bb oo hb => hx.cell hb
    refine wp_region_plan (fun w' => Ext w0 w') 8 (.float 0 (.float 1 (.float 2 (.float 3 (.float 4 (.float 5 (.float 6 (.float 7 (.tail 8))))))))) (by kernel_rfl) (by kernel_rfl) (Ext.refl _).drew ?_
    iterate 8 ((refine Plan.float_step (v := ?_) rfl (by rfl) (fun _ _ _ h => h) (fun w' hSw => ?_) ?_; rotate_left; · (go_simp; try with_reducible rfl)); (try simp only [Act.put, List.setIfInBounds_toArray, List.set_cons_zero, List.set_cons_succ]))
    refine Plan.tail_step ?_
    simp only [List.drop_succ_cons, List.drop_zero]
    clear hS
    go_upto_region 2 with (go_at_call 118; refine (specWrap_any _ (by omega) (by omega) _).mono ?_; rintro e w' ⟨he, rfl⟩; rw [hQ.out] at he; subst he)
    clear xm0 xm1 xm2 xm3 xm4 xm5 xm6 xm7 xm8 xm9 ym
    clear fm
    clear xi0 xi1 xi2 xi3 yi
    clear fi
    clear xres0 xres1 xres2 xres3 xres4 xres5 xres6 xres7 xres8 xres9 yres
    clear fres
    have hMd := Mach.drew hM0
    clear hM0 rD ra fr1 fr2
    have ht1 : Turn (mfoot g1 g2 (.slice A4 m.outs.length c4)) w (World.drew w0) := (Turn.hold ht0).drew
    have hs1 : w.heap.size + 3 ≤ (World.drew w0).heap.size := by simp; omega
    have yg1 : g1 < (World.drew w0).heap.size := yg1
    have yg2 : g2 < (World.drew w0).heap.size := yg2
    have hBm_1 : Bx (World.drew w0) (w.heap.size) [(.slice (some ⟨g1, o1, none⟩) 4 c1), .int .i64 m.pc, (.slice (some ⟨g2, o2, none⟩) 64 c2), .int .i64 m.save, .bool m.lets, .bool m.waits, .int .i64 m.halt, (.slice A3 m.ins.length c3), (.slice A4 m.outs.length c4), .int .i64 m.count] := Bx.hold hBm_0
    have hFm_1 : ∀ oo, (World.drew w0).frozen? ⟨w.heap.size, oo, none⟩ = false := fz_hold hFm_0
    have hBi_1 : Bx (World.drew w0) (w.heap.size + 1) [.int .i64 op, .int .i64 (D : Int), .int .i64 (a : Int), .int .i64 k] := Bx.hold hBi_0
    have hFi_1 : ∀ oo, (World.drew w0).frozen? ⟨w.heap.size + 1, oo, none⟩ = false := fz_hold hFi_0
    have hBres_1 : Bx (World.drew w0) (w.heap.size + 1 + 1) [.slice none 0 0, .int .i64 0, .slice none 0 0, .int .i64 0, .bool false, .bool false, .int .i64 0, .slice none 0 0, .slice none 0 0, .int .i64 0] := Bx.hold hBres_0
    have hFres_1 : ∀ oo, (World.drew w0).frozen? ⟨w.heap.size + 1 + 1, oo, none⟩ = false := fz_hold hFres_0
    generalize (World.drew w0) = w1 at *
    clear hBm_0 hFm_0 hBi_0 hFi_0 hBres_0 hFres_0
    have hM0 := hMd
    clear hMd
    have rD := hM0.regAt hD
    have fr2 := hM0.fz2
    have ym : w.heap.size < w1.heap.size := by omega
    have xm0 := hBm_1 0 _ rfl
    have xm1 := hBm_1 1 _ rfl
    have xm2 := hBm_1 2 _ rfl
    have xm3 := hBm_1 3 _ rfl
    have xm4 := hBm_1 4 _ rfl
    have xm5 := hBm_1 5 _ rfl
    have xm6 := hBm_1 6 _ rfl
    have xm7 := hBm_1 7 _ rfl
    have xm8 := hBm_1 8 _ rfl
    have xm9 := hBm_1 9 _ rfl
    have fm := hFm_1
    have yi : w.heap.size + 1 < w1.heap.size := by omega
    have xi0 := hBi_1 0 _ rfl
    have xi1 := hBi_1 1 _ rfl
    have xi2 := hBi_1 2 _ rfl
    have xi3 := hBi_1 3 _ rfl
    have fi := hFi_1
    have yres : w.heap.size + 1 + 1 < w1.heap.size := by omega
    have xres0 := hBres_1 0 _ rfl
    have xres1 := hBres_1 1 _ rfl
    have xres2 := hBres_1 2 _ rfl
    have xres3 := hBres_1 3 _ rfl
    have xres4 := hBres_1 4 _ rfl
    have xres5 := hBres_1 5 _ rfl
    have xres6 := hBres_1 6 _ rfl
    have xres7 := hBres_1 7 _ rfl
    have xres8 := hBres_1 8 _ rfl
    have xres9 := hBres_1 9 _ rfl
    have fres := hFres_1
    go_wp2_with fail
    refine (l3Halt_any m 3 _ _ _ _ _ _ _ _ _ _ _ _ _).mono ?_
    rintro e w2 ⟨rfl, hy⟩
    clear xm0 xm1 xm2 xm3 xm4 xm5 xm6 xm7 xm8 xm9 ym
    clear fm
    clear xi0 xi1 xi2 xi3 yi
    clear fi
    clear xres0 xres1 xres2 xres3 xres4 xres5 xres6 xres7 xres8 xres9 yres
    clear fres
    have hs2 := hy.size
    try simp at hs2
    have ht2 : Turn (mfoot g1 g2 (.slice A4 m.outs.length c4)) w w2 := (Turn.hold ht1).call hy
    have hBres_2 : Bx w2 (w.heap.size + 1 + 1) [.slice none 0 0, .int .i64 0, .slice none 0 0, .int .i64 0, .bool false, .bool false, .int .i64 0, .slice none 0 0, .slice none 0 0, .int .i64 0] := hy.bx (Bx.hold hBres_1) (by first | omega | (simp; done) | (simp; omega))
    have hFres_2 : ∀ oo, w2.frozen? ⟨w.heap.size + 1 + 1, oo, none⟩ = false := fun oo => (hy.frozen (by first | omega | (simp; done) | (simp; omega))).trans ((fz_hold hFres_1) oo)
    try clear hBres_1 hFres_1
    have hM1 := (hM0.ext hy).same (m' := ({ m with halt := 3 } : MchMach)) rfl rfl rfl rfl
    clear hy hM0
    have yres : w.heap.size + 1 + 1 < w2.heap.size := by omega
    have xres0 := hBres_2 0 _ rfl
    have xres1 := hBres_2 1 _ rfl
    have xres2 := hBres_2 2 _ rfl
    have xres3 := hBres_2 3 _ rfl
    have xres4 := hBres_2 4 _ rfl
    have xres5 := hBres_2 5 _ rfl
    have xres6 := hBres_2 6 _ rfl
    have xres7 := hBres_2 7 _ rfl
    have xres8 := hBres_2 8 _ rfl
    have xres9 := hBres_2 9 _ rfl
    have fres := hFres_2
    go_wp2
    refine bodyPost_ret (v := .agg #[(.slice (some ⟨g1, o1, none⟩) 4 c1), .int .i64 (({ m with halt := 3 } : MchMach).pc), (.slice (some ⟨g2, o2, none⟩) 64 c2), .int .i64 (({ m with halt := 3 } : MchMach).save), .bool ({ m with halt := 3 } : MchMach).lets, .bool ({ m with halt := 3 } : MchMach).waits, .int .i64 (({ m with halt := 3 } : MchMach).halt), (.slice A3 m.ins.length c3), (.slice A4 m.outs.length c4), .int .i64 (({ m with halt := 3 } : MchMach).count)]) (by simp [results, Tryd.results114, go_sem, MchMach.next, MchMach.setR, xres0, xres1, xres2, xres3, xres4, xres5, xres6, xres7, xres8, xres9]) rfl ⟨_, _, by rw [HV.out], by rw [HV.out]; exact Mach.dropX (Mach.dropX (Mach.dropX (Mach.hold hM1))), Turn.hold ht2, fun q hq => .inl hq⟩
  have hQ6 : Q < 64 := by omega
  have q1 : decide (64 ≤ (Q : Int)) = false := decide_eq_false (by omega)
  have z4 : (0 : Int) ≤ (Q : Int) := by omega
  have z5 : (Q : Int) < 64 := by omega
  by_cases hop : op = 9
  · 
    have HV := hide (show mReach m ⟨op, (D : Int), (a : Int), k⟩ = ((m.setR (D : Int) (m.word (Q : Int))).next (m.pc + 1)) by unfold mReach; simp only [hQ.out]; rw [if_neg (by omega), if_pos hop])
    have q2 : (op == 9) = true := by simp [hop]
    have hw0 := hk.word (Q : Int)
    have ym : w.heap.size < w0.heap.size := by omega
    have xm0 := hBm_0 0 _ rfl
    have xm1 := hBm_0 1 _ rfl
    have xm2 := hBm_0 2 _ rfl
    have xm3 := hBm_0 3 _ rfl
    have xm4 := hBm_0 4 _ rfl
    have xm5 := hBm_0 5 _ rfl
    have xm6 := hBm_0 6 _ rfl
    have xm7 := hBm_0 7 _ rfl
    have xm8 := hBm_0 8 _ rfl
    have xm9 := hBm_0 9 _ rfl
    have fm := hFm_0
    have yi : w.heap.size + 1 < w0.heap.size := by omega
    have xi0 := hBi_0 0 _ rfl
    have xi1 := hBi_0 1 _ rfl
    have xi2 := hBi_0 2 _ rfl
    have xi3 := hBi_0 3 _ rfl
    have fi := hFi_0
    have yres : w.heap.size + 1 + 1 < w0.heap.size := by omega
    have xres0 := hBres_0 0 _ rfl
    have xres1 := hBres_0 1 _ rfl
    have xres2 := hBres_0 2 _ rfl
    have xres3 := hBres_0 3 _ rfl
    have xres4 := hBres_0 4 _ rfl
    have xres5 := hBres_0 5 _ rfl
    have xres6 := hBres_0 6 _ rfl
    have xres7 := hBres_0 7 _ rfl
    have xres8 := hBres_0 8 _ rfl
    have xres9 := hBres_0 9 _ rfl
    have fres := hFres_0
    go_upto_region 1 with fail
    have hS : ∀ w', Ext w0 w' → ∀ bb oo, bb < w0.heap.size → w'.cell? ⟨bb, oo, none⟩ = w0.cell? ⟨bb, oo, none⟩ := fun w' hx bb oo hb => hx.cell hb
    refine wp_region_plan (fun w' => Ext w0 w') 8 (.float 0 (.float 1 (.float 2 (.float 3 (.float 4 (.float 5 (.float 6 (.float 7 (.tail 8))))))))) (by kernel_rfl) (by kernel_rfl) (Ext.refl _).drew ?_
    iterate 8 ((refine Plan.float_step (v := ?_) rfl (by rfl) (fun _ _ _ h => h) (fun w' hSw => ?_) ?_; rotate_left; · (go_simp; try with_reducible rfl)); (try simp only [Act.put, List.setIfInBounds_toArray, List.set_cons_zero, List.set_cons_succ]))
    refine Plan.tail_step ?_
    simp only [List.drop_succ_cons, List.drop_zero]
    clear hS
    go_upto_region 2 with (go_at_call 118; refine (specWrap_any _ (by omega) (by omega) _).mono ?_; rintro e w' ⟨he, rfl⟩; rw [hQ.out] at he; subst he)
    clear xm0 xm1 xm2 xm3 xm4 xm5 xm6 xm7 xm8 xm9 ym
    clear fm
    clear xi0 xi1 xi2 xi3 yi
    clear fi
    clear xres0 xres1 xres2 xres3 xres4 xres5 xres6 xres7 xres8 xres9 yres
    clear fres
    have hMd := Mach.drew hM0
    clear hM0 rD ra fr1 fr2
    have ht1 : Turn (mfoot g1 g2 (.slice A4 m.outs.length c4)) w (World.drew w0) := (Turn.hold ht0).drew
    have hs1 : w.heap.size + 3 ≤ (World.drew w0).heap.size := by simp; omega
    have yg1 : g1 < (World.drew w0).heap.size := yg1
    have yg2 : g2 < (World.drew w0).heap.size := yg2
    have hBm_1 : Bx (World.drew w0) (w.heap.size) [(.slice (some ⟨g1, o1, none⟩) 4 c1), .int .i64 m.pc, (.slice (some ⟨g2, o2, none⟩) 64 c2), .int .i64 m.save, .bool m.lets, .bool m.waits, .int .i64 m.halt, (.slice A3 m.ins.length c3), (.slice A4 m.outs.length c4), .int .i64 m.count] := Bx.hold hBm_0
    have hFm_1 : ∀ oo, (World.drew w0).frozen? ⟨w.heap.size, oo, none⟩ = false := fz_hold hFm_0
    have hBi_1 : Bx (World.drew w0) (w.heap.size + 1) [.int .i64 op, .int .i64 (D : Int), .int .i64 (a : Int), .int .i64 k] := Bx.hold hBi_0
    have hFi_1 : ∀ oo, (World.drew w0).frozen? ⟨w.heap.size + 1, oo, none⟩ = false := fz_hold hFi_0
    have hBres_1 : Bx (World.drew w0) (w.heap.size + 1 + 1) [.slice none 0 0, .int .i64 0, .slice none 0 0, .int .i64 0, .bool false, .bool false, .int .i64 0, .slice none 0 0, .slice none 0 0, .int .i64 0] := Bx.hold hBres_0
    have hFres_1 : ∀ oo, (World.drew w0).frozen? ⟨w.heap.size + 1 + 1, oo, none⟩ = false := fz_hold hFres_0
    generalize (World.drew w0) = w1 at *
    clear hBm_0 hFm_0 hBi_0 hFi_0 hBres_0 hFres_0
    have hM0 := hMd
    clear hMd
    have rD := hM0.regAt hD
    have fr2 := hM0.fz2
    have ym : w.heap.size < w1.heap.size := by omega
    have xm0 := hBm_1 0 _ rfl
    have xm1 := hBm_1 1 _ rfl
    have xm2 := hBm_1 2 _ rfl
    have xm3 := hBm_1 3 _ rfl
    have xm4 := hBm_1 4 _ rfl
    have xm5 := hBm_1 5 _ rfl
    have xm6 := hBm_1 6 _ rfl
    have xm7 := hBm_1 7 _ rfl
    have xm8 := hBm_1 8 _ rfl
    have xm9 := hBm_1 9 _ rfl
    have fm := hFm_1
    have yi : w.heap.size + 1 < w1.heap.size := by omega
    have xi0 := hBi_1 0 _ rfl
    have xi1 := hBi_1 1 _ rfl
    have xi2 := hBi_1 2 _ rfl
    have xi3 := hBi_1 3 _ rfl
    have fi := hFi_1
    have yres : w.heap.size + 1 + 1 < w1.heap.size := by omega
    have xres0 := hBres_1 0 _ rfl
    have xres1 := hBres_1 1 _ rfl
    have xres2 := hBres_1 2 _ rfl
    have xres3 := hBres_1 3 _ rfl
    have xres4 := hBres_1 4 _ rfl
    have xres5 := hBres_1 5 _ rfl
    have xres6 := hBres_1 6 _ rfl
    have xres7 := hBres_1 7 _ rfl
    have xres8 := hBres_1 8 _ rfl
    have xres9 := hBres_1 9 _ rfl
    have fres := hFres_1
    have rQ := hM0.memAt hQ6
    go_upto_region 5 with fail
    have hS : ∀ w', Ext w1 w' → ∀ bb oo, bb < w1.heap.size → w'.cell? ⟨bb, oo, none⟩ = w1.cell? ⟨bb, oo, none⟩ := fun w' hx bb oo hb => hx.cell hb
    refine wp_region_plan (fun w' => Ext w1 w') 8 (.float 0 (.float 1 (.float 2 (.float 3 (.float 4 (.float 5 (.float 6 (.float 7 (.tail 8))))))))) (by kernel_rfl) (by kernel_rfl) (Ext.refl _).drew ?_
    iterate 8 ((refine Plan.float_step (v := ?_) rfl (by rfl) (fun _ _ _ h => h) (fun w' hSw => ?_) ?_; rotate_left; · (go_simp; try with_reducible rfl)); (try simp only [Act.put, List.setIfInBounds_toArray, List.set_cons_zero, List.set_cons_succ]))
    refine Plan.tail_step ?_
    simp only [List.drop_succ_cons, List.drop_zero]
    clear hS
    go_wp2_with fail
    refine (l3Set_any m _ _ _ _ _ _ _ _ lo _ _ hM0.drew hk hc D hD _ hw0.1 hw0.2).mono ?_
    rintro e w2 ⟨rfl, hM1, hy⟩
    clear xm0 xm1 xm2 xm3 xm4 xm5 xm6 xm7 xm8 xm9 ym
    clear fm
    clear xi0 xi1 xi2 xi3 yi
    clear fi
    clear xres0 xres1 xres2 xres3 xres4 xres5 xres6 xres7 xres8 xres9 yres
    clear fres
    have hs2 := hy.size
    try simp at hs2
    have ht2 : Turn (mfoot g1 g2 (.slice A4 m.outs.length c4)) w w2 := (Turn.hold ht1).trans hy (fun x hx => .inl (by unfold mfoot; simp at hx ⊢; simp [hx]))
    have hBres_2 : Bx w2 (w.heap.size + 1 + 1) [.slice none 0 0, .int .i64 0, .slice none 0 0, .int .i64 0, .bool false, .bool false, .int .i64 0, .slice none 0 0, .slice none 0 0, .int .i64 0] := hy.bx (Bx.hold hBres_1) (by first | omega | (simp; done) | (simp; omega)) (by simp; omega)
    have hFres_2 : ∀ oo, w2.frozen? ⟨w.heap.size + 1 + 1, oo, none⟩ = false := fun oo => (hy.frozen (by first | omega | (simp; done) | (simp; omega)) (by simp; omega)).trans ((fz_hold hFres_1) oo)
    try clear hBres_1 hFres_1
    have yres : w.heap.size + 1 + 1 < w2.heap.size := by omega
    have xres0 := hBres_2 0 _ rfl
    have xres1 := hBres_2 1 _ rfl
    have xres2 := hBres_2 2 _ rfl
    have xres3 := hBres_2 3 _ rfl
    have xres4 := hBres_2 4 _ rfl
    have xres5 := hBres_2 5 _ rfl
    have xres6 := hBres_2 6 _ rfl
    have xres7 := hBres_2 7 _ rfl
    have xres8 := hBres_2 8 _ rfl
    have xres9 := hBres_2 9 _ rfl
    have fres := hFres_2
    go_wp2
    refine bodyPost_ret (v := .agg #[(.slice (some ⟨g1, o1, none⟩) 4 c1), .int .i64 (((m.setR (D : Int) (m.word (Q : Int))).next (m.pc + 1)).pc), (.slice (some ⟨g2, o2, none⟩) 64 c2), .int .i64 (((m.setR (D : Int) (m.word (Q : Int))).next (m.pc + 1)).save), .bool ((m.setR (D : Int) (m.word (Q : Int))).next (m.pc + 1)).lets, .bool ((m.setR (D : Int) (m.word (Q : Int))).next (m.pc + 1)).waits, .int .i64 (((m.setR (D : Int) (m.word (Q : Int))).next (m.pc + 1)).halt), (.slice A3 m.ins.length c3), (.slice A4 m.outs.length c4), .int .i64 (((m.setR (D : Int) (m.word (Q : Int))).next (m.pc + 1)).count)]) (by simp [results, Tryd.results114, go_sem, MchMach.next, MchMach.setR, xres0, xres1, xres2, xres3, xres4, xres5, xres6, xres7, xres8, xres9]) rfl ⟨_, _, by rw [HV.out], by rw [HV.out]; exact Mach.dropX (Mach.dropX (Mach.dropX (Mach.hold hM1))), Turn.hold ht2, fun q hq => .inl hq⟩
  · 
    have HV := hide (show mReach m ⟨op, (D : Int), (a : Int), k⟩ = ({ m with mem := m.mem.set Q (m.reg (D : Int)) } : MchMach).next (m.pc + 1) by unfold mReach; simp only [hQ.out]; rw [if_neg (by omega), if_neg hop]; rfl)
    have q2 : (op == 9) = false := by simp [hop]
    have hw0 := hk.reg (D : Int)
    clear hop
    have ym : w.heap.size < w0.heap.size := by omega
    have xm0 := hBm_0 0 _ rfl
    have xm1 := hBm_0 1 _ rfl
    have xm2 := hBm_0 2 _ rfl
    have xm3 := hBm_0 3 _ rfl
    have xm4 := hBm_0 4 _ rfl
    have xm5 := hBm_0 5 _ rfl
    have xm6 := hBm_0 6 _ rfl
    have xm7 := hBm_0 7 _ rfl
    have xm8 := hBm_0 8 _ rfl
    have xm9 := hBm_0 9 _ rfl
    have fm := hFm_0
    have yi : w.heap.size + 1 < w0.heap.size := by omega
    have xi0 := hBi_0 0 _ rfl
    have xi1 := hBi_0 1 _ rfl
    have xi2 := hBi_0 2 _ rfl
    have xi3 := hBi_0 3 _ rfl
    have fi := hFi_0
    have yres : w.heap.size + 1 + 1 < w0.heap.size := by omega
    have xres0 := hBres_0 0 _ rfl
    have xres1 := hBres_0 1 _ rfl
    have xres2 := hBres_0 2 _ rfl
    have xres3 := hBres_0 3 _ rfl
    have xres4 := hBres_0 4 _ rfl
    have xres5 := hBres_0 5 _ rfl
    have xres6 := hBres_0 6 _ rfl
    have xres7 := hBres_0 7 _ rfl
    have xres8 := hBres_0 8 _ rfl
    have xres9 := hBres_0 9 _ rfl
    have fres := hFres_0
    go_upto_region 1 with fail
    have hS : ∀ w', Ext w0 w' → ∀ bb oo, bb < w0.heap.size → w'.cell? ⟨bb, oo, none⟩ = w0.cell? ⟨bb, oo, none⟩ := fun w' hx bb oo hb => hx.cell hb
    refine wp_region_plan (fun w' => Ext w0 w') 8 (.float 0 (.float 1 (.float 2 (.float 3 (.float 4 (.float 5 (.float 6 (.float 7 (.tail 8))))))))) (by kernel_rfl) (by kernel_rfl) (Ext.refl _).drew ?_
    iterate 8 ((refine Plan.float_step (v := ?_) rfl (by rfl) (fun _ _ _ h => h) (fun w' hSw => ?_) ?_; rotate_left; · (go_simp; try with_reducible rfl)); (try simp only [Act.put, List.setIfInBounds_toArray, List.set_cons_zero, List.set_cons_succ]))
    refine Plan.tail_step ?_
    simp only [List.drop_succ_cons, List.drop_zero]
    clear hS
    go_upto_region 2 with (go_at_call 118; refine (specWrap_any _ (by omega) (by omega) _).mono ?_; rintro e w' ⟨he, rfl⟩; rw [hQ.out] at he; subst he)
    clear xm0 xm1 xm2 xm3 xm4 xm5 xm6 xm7 xm8 xm9 ym
    clear fm
    clear xi0 xi1 xi2 xi3 yi
    clear fi
    clear xres0 xres1 xres2 xres3 xres4 xres5 xres6 xres7 xres8 xres9 yres
    clear fres
    have hMd := Mach.drew hM0
    clear hM0 rD ra fr1 fr2
    have ht1 : Turn (mfoot g1 g2 (.slice A4 m.outs.length c4)) w (World.drew w0) := (Turn.hold ht0).drew
    have hs1 : w.heap.size + 3 ≤ (World.drew w0).heap.size := by simp; omega
    have yg1 : g1 < (World.drew w0).heap.size := yg1
    have yg2 : g2 < (World.drew w0).heap.size := yg2
    have hBm_1 : Bx (World.drew w0) (w.heap.size) [(.slice (some ⟨g1, o1, none⟩) 4 c1), .int .i64 m.pc, (.slice (some ⟨g2, o2, none⟩) 64 c2), .int .i64 m.save, .bool m.lets, .bool m.waits, .int .i64 m.halt, (.slice A3 m.ins.length c3), (.slice A4 m.outs.length c4), .int .i64 m.count] := Bx.hold hBm_0
    have hFm_1 : ∀ oo, (World.drew w0).frozen? ⟨w.heap.size, oo, none⟩ = false := fz_hold hFm_0
    have hBi_1 : Bx (World.drew w0) (w.heap.size + 1) [.int .i64 op, .int .i64 (D : Int), .int .i64 (a : Int), .int .i64 k] := Bx.hold hBi_0
    have hFi_1 : ∀ oo, (World.drew w0).frozen? ⟨w.heap.size + 1, oo, none⟩ = false := fz_hold hFi_0
    have hBres_1 : Bx (World.drew w0) (w.heap.size + 1 + 1) [.slice none 0 0, .int .i64 0, .slice none 0 0, .int .i64 0, .bool false, .bool false, .int .i64 0, .slice none 0 0, .slice none 0 0, .int .i64 0] := Bx.hold hBres_0
    have hFres_1 : ∀ oo, (World.drew w0).frozen? ⟨w.heap.size + 1 + 1, oo, none⟩ = false := fz_hold hFres_0
    generalize (World.drew w0) = w1 at *
    clear hBm_0 hFm_0 hBi_0 hFi_0 hBres_0 hFres_0
    have hM0 := hMd
    clear hMd
    have rD := hM0.regAt hD
    have fr2 := hM0.fz2
    have ym : w.heap.size < w1.heap.size := by omega
    have xm0 := hBm_1 0 _ rfl
    have xm1 := hBm_1 1 _ rfl
    have xm2 := hBm_1 2 _ rfl
    have xm3 := hBm_1 3 _ rfl
    have xm4 := hBm_1 4 _ rfl
    have xm5 := hBm_1 5 _ rfl
    have xm6 := hBm_1 6 _ rfl
    have xm7 := hBm_1 7 _ rfl
    have xm8 := hBm_1 8 _ rfl
    have xm9 := hBm_1 9 _ rfl
    have fm := hFm_1
    have yi : w.heap.size + 1 < w1.heap.size := by omega
    have xi0 := hBi_1 0 _ rfl
    have xi1 := hBi_1 1 _ rfl
    have xi2 := hBi_1 2 _ rfl
    have xi3 := hBi_1 3 _ rfl
    have fi := hFi_1
    have yres : w.heap.size + 1 + 1 < w1.heap.size := by omega
    have xres0 := hBres_1 0 _ rfl
    have xres1 := hBres_1 1 _ rfl
    have xres2 := hBres_1 2 _ rfl
    have xres3 := hBres_1 3 _ rfl
    have xres4 := hBres_1 4 _ rfl
    have xres5 := hBres_1 5 _ rfl
    have xres6 := hBres_1 6 _ rfl
    have xres7 := hBres_1 7 _ rfl
    have xres8 := hBres_1 8 _ rfl
    have xres9 := hBres_1 9 _ rfl
    have fres := hFres_1
    have rQ := hM0.memAt hQ6
    go_upto_region 6 with fail
    have hS : ∀ w', Ext w1 w' → ∀ bb oo, bb < w1.heap.size → w'.cell? ⟨bb, oo, none⟩ = w1.cell? ⟨bb, oo, none⟩ := fun w' hx bb oo hb => hx.cell hb
    refine wp_region_plan (fun w' => Ext w1 w') 9 (.float 0 (.float 1 (.float 2 (.float 3 (.float 4 (.float 5 (.float 6 (.float 7 (.float 8 (.tail 9)))))))))) (by kernel_rfl) (by kernel_rfl) (Ext.refl _).drew ?_
    iterate 9 ((refine Plan.float_step (v := ?_) rfl (by rfl) (fun _ _ _ h => h) (fun w' hSw => ?_) ?_; rotate_left; · (go_simp; try with_reducible rfl)); (try simp only [Act.put, List.setIfInBounds_toArray, List.set_cons_zero, List.set_cons_succ]))
    refine Plan.tail_step ?_
    simp only [List.drop_succ_cons, List.drop_zero]
    clear hS
    go_upto_region 7 with fail
    clear xm0 xm1 xm2 xm3 xm4 xm5 xm6 xm7 xm8 xm9 ym
    clear fm
    clear xi0 xi1 xi2 xi3 yi
    clear fi
    clear xres0 xres1 xres2 xres3 xres4 xres5 xres6 xres7 xres8 xres9 yres
    clear fres
    have hM1 := (hM0.setMem hQ6 (n := m.reg (D : Int)) ⟨by omega, by omega⟩).drew
    have ht2 : Turn (mfoot g1 g2 (.slice A4 m.outs.length c4)) w (w1.setCell ⟨g2, o2 + Q, none⟩ (.int .i64 (m.reg (D : Int)))).drew := ((Turn.hold ht1).set (.inl (by first | (unfold mfoot; simp; done) | (simp; done))) _).drew
    have hs2 : w.heap.size + 3 ≤ (w1.setCell ⟨g2, o2 + Q, none⟩ (.int .i64 (m.reg (D : Int)))).drew.heap.size := by simp; omega
    have hBm_2 : Bx (w1.setCell ⟨g2, o2 + Q, none⟩ (.int .i64 (m.reg (D : Int)))).drew (w.heap.size) [(.slice (some ⟨g1, o1, none⟩) 4 c1), .int .i64 m.pc, (.slice (some ⟨g2, o2, none⟩) 64 c2), .int .i64 m.save, .bool m.lets, .bool m.waits, .int .i64 m.halt, (.slice A3 m.ins.length c3), (.slice A4 m.outs.length c4), .int .i64 m.count] := Bx.hold hBm_1
    have hFm_2 : ∀ oo, (w1.setCell ⟨g2, o2 + Q, none⟩ (.int .i64 (m.reg (D : Int)))).drew.frozen? ⟨w.heap.size, oo, none⟩ = false := fz_hold hFm_1
    have hBi_2 : Bx (w1.setCell ⟨g2, o2 + Q, none⟩ (.int .i64 (m.reg (D : Int)))).drew (w.heap.size + 1) [.int .i64 op, .int .i64 (D : Int), .int .i64 (a : Int), .int .i64 k] := Bx.hold hBi_1
    have hFi_2 : ∀ oo, (w1.setCell ⟨g2, o2 + Q, none⟩ (.int .i64 (m.reg (D : Int)))).drew.frozen? ⟨w.heap.size + 1, oo, none⟩ = false := fz_hold hFi_1
    have hBres_2 : Bx (w1.setCell ⟨g2, o2 + Q, none⟩ (.int .i64 (m.reg (D : Int)))).drew (w.heap.size + 1 + 1) [.slice none 0 0, .int .i64 0, .slice none 0 0, .int .i64 0, .bool false, .bool false, .int .i64 0, .slice none 0 0, .slice none 0 0, .int .i64 0] := Bx.hold hBres_1
    have hFres_2 : ∀ oo, (w1.setCell ⟨g2, o2 + Q, none⟩ (.int .i64 (m.reg (D : Int)))).drew.frozen? ⟨w.heap.size + 1 + 1, oo, none⟩ = false := fz_hold hFres_1
    generalize (w1.setCell ⟨g2, o2 + Q, none⟩ (.int .i64 (m.reg (D : Int)))).drew = w2 at *
    clear hBm_1 hFm_1 hBi_1 hFi_1 hBres_1 hFres_1
    have ym : w.heap.size < w2.heap.size := by omega
    have xm0 := hBm_2 0 _ rfl
    have xm1 := hBm_2 1 _ rfl
    have xm2 := hBm_2 2 _ rfl
    have xm3 := hBm_2 3 _ rfl
    have xm4 := hBm_2 4 _ rfl
    have xm5 := hBm_2 5 _ rfl
    have xm6 := hBm_2 6 _ rfl
    have xm7 := hBm_2 7 _ rfl
    have xm8 := hBm_2 8 _ rfl
    have xm9 := hBm_2 9 _ rfl
    go_wp2_with fail
    refine (l3Next_any ({ m with mem := m.mem.set Q (m.reg (D : Int)) } : MchMach) (m.pc + 1) (by omega) (by omega) (show 0 ≤ m.count from hc0) (show m.count ≤ 1000000 by omega) _ _ _ _ _ _ _ _ _ _ _ _ _).mono ?_
    rintro e w3 ⟨rfl, hy⟩
    clear xm0 xm1 xm2 xm3 xm4 xm5 xm6 xm7 xm8 xm9 ym
    have hs3 := hy.size
    try simp at hs3
    have ht3 : Turn (mfoot g1 g2 (.slice A4 m.outs.length c4)) w w3 := (Turn.hold ht2).call hy
    have hBres_3 : Bx w3 (w.heap.size + 1 + 1) [.slice none 0 0, .int .i64 0, .slice none 0 0, .int .i64 0, .bool false, .bool false, .int .i64 0, .slice none 0 0, .slice none 0 0, .int .i64 0] := hy.bx (Bx.hold hBres_2) (by first | omega | (simp; done) | (simp; omega))
    have hFres_3 : ∀ oo, w3.frozen? ⟨w.heap.size + 1 + 1, oo, none⟩ = false := fun oo => (hy.frozen (by first | omega | (simp; done) | (simp; omega))).trans ((fz_hold hFres_2) oo)
    try clear hBres_2 hFres_2
    have hM2 := (hM1.ext hy).same (m' := ({ m with mem := m.mem.set Q (m.reg (D : Int)) } : MchMach).next (m.pc + 1)) rfl rfl rfl rfl
    clear hy hM1
    have yres : w.heap.size + 1 + 1 < w3.heap.size := by omega
    have xres0 := hBres_3 0 _ rfl
    have xres1 := hBres_3 1 _ rfl
    have xres2 := hBres_3 2 _ rfl
    have xres3 := hBres_3 3 _ rfl
    have xres4 := hBres_3 4 _ rfl
    have xres5 := hBres_3 5 _ rfl
    have xres6 := hBres_3 6 _ rfl
    have xres7 := hBres_3 7 _ rfl
    have xres8 := hBres_3 8 _ rfl
    have xres9 := hBres_3 9 _ rfl
    have fres := hFres_3
    go_wp2
    refine bodyPost_ret (v := .agg #[(.slice (some ⟨g1, o1, none⟩) 4 c1), .int .i64 ((({ m with mem := m.mem.set Q (m.reg (D : Int)) } : MchMach).next (m.pc + 1)).pc), (.slice (some ⟨g2, o2, none⟩) 64 c2), .int .i64 ((({ m with mem := m.mem.set Q (m.reg (D : Int)) } : MchMach).next (m.pc + 1)).save), .bool (({ m with mem := m.mem.set Q (m.reg (D : Int)) } : MchMach).next (m.pc + 1)).lets, .bool (({ m with mem := m.mem.set Q (m.reg (D : Int)) } : MchMach).next (m.pc + 1)).waits, .int .i64 ((({ m with mem := m.mem.set Q (m.reg (D : Int)) } : MchMach).next (m.pc + 1)).halt), (.slice A3 m.ins.length c3), (.slice A4 m.outs.length c4), .int .i64 ((({ m with mem := m.mem.set Q (m.reg (D : Int)) } : MchMach).next (m.pc + 1)).count)]) (by simp [results, Tryd.results114, go_sem, MchMach.next, MchMach.setR, xres0, xres1, xres2, xres3, xres4, xres5, xres6, xres7, xres8, xres9]) rfl ⟨_, _, by rw [HV.out], by rw [HV.out]; exact Mach.dropX (Mach.dropX (Mach.dropX (Mach.hold hM2))), Turn.hold ht3, fun q hq => .inl hq⟩

theorem l3Shift_any (n : Int) (k : Nat) (h0 : 0 ≤ n) (h1 : n < 65536) (hk : k ≤ 255) (w : World) : Calls Tryd.prog 113 #[.int .i64 n, .int .i64 (k : Int)] w fun e w' => e = .returned (.int .i64 (dbl n k)) ∧ w = w' := by
  go_enter Tryd.func113, Tryd.ntmps113
  go_wp2
  go_loop [5, 6] (fun x j => ∃ i : Nat, i ≤ k ∧ j = .int .i64 i ∧ x = .int .i64 (dbl n i)) (fun _ j => k - (intOf j).toNat)
  case atStart => exact ⟨0, by omega, rfl, rfl⟩
  case round =>
    obtain ⟨i, hi, rfl, rfl⟩ := hrel
    have hd := dbl_word h0 h1 i
    have hd0 := hd.1
    have hd1 := hd.2
    by_cases hlt : i < k
    · have HT := hide (show (dbl n i + dbl n i) % 65536 = dbl n (i + 1) by rw [dbl]; omega)
      have z1 : (i : Int) < (k : Int) := by omega
      go_wp2_with (go_at_call 118; refine (specWrap_any _ (by omega) (by omega) _).mono ?_; rintro e w' ⟨rfl, rfl⟩)
      go_round
      case rel => exact ⟨i + 1, by omega, by go_num, by rw [HT.out]⟩
      case measure => (simp [intOf]; try omega)
    · obtain rfl : i = k := by omega
      go_wp2
      go_ret
      exact ⟨rfl, rfl⟩

end Go.Proofs.YtokibcicoomceaaDoor
