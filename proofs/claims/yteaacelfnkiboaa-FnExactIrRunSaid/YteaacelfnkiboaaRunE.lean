/-
  An operation that reaches out: the reference.
-/
import Derived.Test.YteaacelfnkiboaaRunV
import Derived.Test.YteaacelfnkiboaaRunA
import Derived.Test.YteaacelfnkiboaaTo
import Derived.Deep.DeepCutAuto
namespace Go.Proofs.Yteaacelfnkiboaa
open Go.RowKit

set_option linter.unusedVariables false
set_option linter.unusedSimpArgs false
set_option maxRecDepth 100000

set_option maxHeartbeats 16000000 in
theorem l6Event_any (m : MchMach) (b : IrBlock) (o : IrOp) (x y : Int) (vb : Value) (g1 o1 c1 g2 o2 c2 : Nat) (v3 v4 : Value) (lo : Nat) (X : List Nat) (w : World) (hM : Mach 3 lo X w g1 o1 c1 g2 o2 c2 v3 v4 m) (hk : MOk m) (hn4 : m.outs.length ≤ 4194304) (hb1 : 0 ≤ b.pc ∧ b.pc ≤ 64) (hb2 : 0 ≤ b.len ∧ b.len ≤ 64) (hkd : o.kind = 4 ∨ o.kind = 5 ∨ o.kind = 6 ∨ o.kind = 7) (hat : 0 ≤ o.at_ ∧ o.at_ ≤ 64) (hx0 : 0 ≤ x) (hx1 : x < 65536) (hy0 : 0 ≤ y) (hy1 : y < 65536) :
    Calls Try.prog 56 #[.agg #[(.slice (some ⟨g1, o1, none⟩) 4 c1), .int .i64 m.pc, (.slice (some ⟨g2, o2, none⟩) 64 c2), .int .i64 m.save, .bool m.lets, .bool m.waits, .int .i64 m.halt, v3, v4, .int .i64 m.count], .agg #[.int .i64 b.pc, .int .i64 b.len, vb, .int .i64 b.fin, .int .i64 b.x, .int .i64 b.y, .int .i64 b.k], .agg #[.int .i64 o.kind, .int .i64 o.x, .int .i64 o.y, .int .i64 o.k, .int .i64 o.at_], .int .i64 x, .int .i64 y] w fun e w' => ∃ v3' v4', e = .returned (.tuple #[.agg #[(.slice (some ⟨g1, o1, none⟩) 4 c1), .int .i64 ((rEvent b m o x y).1.pc), (.slice (some ⟨g2, o2, none⟩) 64 c2), .int .i64 ((rEvent b m o x y).1.save), .bool (rEvent b m o x y).1.lets, .bool (rEvent b m o x y).1.waits, .int .i64 ((rEvent b m o x y).1.halt), v3', v4', .int .i64 ((rEvent b m o x y).1.count)], .int .i64 (rEvent b m o x y).2.1, .bool (rEvent b m o x y).2.2]) ∧ Mach 3 lo X w' g1 o1 c1 g2 o2 c2 v3' v4' (rEvent b m o x y).1 ∧ Turn (mfoot g1 g2 v4) w w' ∧ (∀ q, v4'.ownBlock = some q → v4.ownBlock = some q ∨ w.heap.size ≤ q) := by
  obtain ⟨i0, hi, hz0, hz1, hz2⟩ := info_parts infInt
  have HI := hide hi
  have HZ0 := hide hz0
  have HZ1 := hide hz1
  have HZ2 := hide hz2
  clear hi hz0 hz1 hz2
  obtain ⟨A3, c3, rfl, hl3, hm3⟩ := hM.form3
  obtain ⟨A4, c4, rfl, hl4, hm4⟩ := hM.form4
  unfold maxLen at hm3 hm4
  have hp0 := hk.p0
  have hp1 := hk.p1
  have hc0 := hk.c0
  have hlt := hM.lt
  have hlt1 := hlt.1
  have hlt2 := hlt.2.1
  have hgl1 := hlt.2.2.1
  have hgl2 := hlt.2.2.2.1
  have hown : ∀ q, (Value.slice A4 m.outs.length c4).ownBlock = some q → q < w.heap.size := fun q hq => (hlt.2.2.2.2 q (by unfold mfoot; simp [hq])).2
  have hfoot : ∀ x, x ∈ mfoot g1 g2 (Value.slice A4 m.outs.length c4) → x < w.heap.size := fun x hx => (hlt.2.2.2.2 x hx).2
  clear hlt
  obtain ⟨q, rfl⟩ := Int.eq_ofNat_of_zero_le hx0
  have hc1 := hk.c1
  have hcc : 0 ≤ m.count ∧ m.count ≤ 1000000 := ⟨hc0, by omega⟩
  by_cases h7 : o.kind = 7
  · 
    have HV := hide (show (rEvent b m o (q : Int) y) = (({ m with outs := m.outs ++ [(q : Int)] } : MchMach), 0, false) by unfold rEvent; rw [if_pos h7])
    have q7 : (o.kind == 7) = true := by simp [h7]
    clear hkd h7
    go_enter Try.func56, Try.ntmps56
    go_upto_region 1 with fail
    have he0 : Ext w ((((w.alloc (Obj.cells #[(.slice (some ⟨g1, o1, none⟩) 4 c1), .int .i64 m.pc, (.slice (some ⟨g2, o2, none⟩) 64 c2), .int .i64 m.save, .bool m.lets, .bool m.waits, .int .i64 m.halt, (.slice A3 m.ins.length c3), (.slice A4 m.outs.length c4), .int .i64 m.count] 46)).alloc (Obj.cells #[.int .i64 b.pc, .int .i64 b.len, vb, .int .i64 b.fin, .int .i64 b.x, .int .i64 b.y, .int .i64 b.k] 25)).alloc (Obj.cells #[.int .i64 o.kind, .int .i64 o.x, .int .i64 o.y, .int .i64 o.k, .int .i64 o.at_] 58)).alloc (Obj.cells #[.slice none 0 0, .int .i64 0, .slice none 0 0, .int .i64 0, .bool false, .bool false, .int .i64 0, .slice none 0 0, .slice none 0 0, .int .i64 0] 46)) := (Ext.auto)
    have hs0 : w.heap.size + 4 ≤ (((((w.alloc (Obj.cells #[(.slice (some ⟨g1, o1, none⟩) 4 c1), .int .i64 m.pc, (.slice (some ⟨g2, o2, none⟩) 64 c2), .int .i64 m.save, .bool m.lets, .bool m.waits, .int .i64 m.halt, (.slice A3 m.ins.length c3), (.slice A4 m.outs.length c4), .int .i64 m.count] 46)).alloc (Obj.cells #[.int .i64 b.pc, .int .i64 b.len, vb, .int .i64 b.fin, .int .i64 b.x, .int .i64 b.y, .int .i64 b.k] 25)).alloc (Obj.cells #[.int .i64 o.kind, .int .i64 o.x, .int .i64 o.y, .int .i64 o.k, .int .i64 o.at_] 58)).alloc (Obj.cells #[.slice none 0 0, .int .i64 0, .slice none 0 0, .int .i64 0, .bool false, .bool false, .int .i64 0, .slice none 0 0, .slice none 0 0, .int .i64 0] 46))).heap.size := by simp
    have hq0 := hide (show (((((w.alloc (Obj.cells #[(.slice (some ⟨g1, o1, none⟩) 4 c1), .int .i64 m.pc, (.slice (some ⟨g2, o2, none⟩) 64 c2), .int .i64 m.save, .bool m.lets, .bool m.waits, .int .i64 m.halt, (.slice A3 m.ins.length c3), (.slice A4 m.outs.length c4), .int .i64 m.count] 46)).alloc (Obj.cells #[.int .i64 b.pc, .int .i64 b.len, vb, .int .i64 b.fin, .int .i64 b.x, .int .i64 b.y, .int .i64 b.k] 25)).alloc (Obj.cells #[.int .i64 o.kind, .int .i64 o.x, .int .i64 o.y, .int .i64 o.k, .int .i64 o.at_] 58)).alloc (Obj.cells #[.slice none 0 0, .int .i64 0, .slice none 0 0, .int .i64 0, .bool false, .bool false, .int .i64 0, .slice none 0 0, .slice none 0 0, .int .i64 0] 46))).heap.size = w.heap.size + 4 by simp)
    have hBm_0 : Bx ((((w.alloc (Obj.cells #[(.slice (some ⟨g1, o1, none⟩) 4 c1), .int .i64 m.pc, (.slice (some ⟨g2, o2, none⟩) 64 c2), .int .i64 m.save, .bool m.lets, .bool m.waits, .int .i64 m.halt, (.slice A3 m.ins.length c3), (.slice A4 m.outs.length c4), .int .i64 m.count] 46)).alloc (Obj.cells #[.int .i64 b.pc, .int .i64 b.len, vb, .int .i64 b.fin, .int .i64 b.x, .int .i64 b.y, .int .i64 b.k] 25)).alloc (Obj.cells #[.int .i64 o.kind, .int .i64 o.x, .int .i64 o.y, .int .i64 o.k, .int .i64 o.at_] 58)).alloc (Obj.cells #[.slice none 0 0, .int .i64 0, .slice none 0 0, .int .i64 0, .bool false, .bool false, .int .i64 0, .slice none 0 0, .slice none 0 0, .int .i64 0] 46)) (w.heap.size) [(.slice (some ⟨g1, o1, none⟩) 4 c1), .int .i64 m.pc, (.slice (some ⟨g2, o2, none⟩) 64 c2), .int .i64 m.save, .bool m.lets, .bool m.waits, .int .i64 m.halt, (.slice A3 m.ins.length c3), (.slice A4 m.outs.length c4), .int .i64 m.count] := (by have := (Bx.alloc (Bx.alloc (Bx.alloc (Bx.new w #[(.slice (some ⟨g1, o1, none⟩) 4 c1), .int .i64 m.pc, (.slice (some ⟨g2, o2, none⟩) 64 c2), .int .i64 m.save, .bool m.lets, .bool m.waits, .int .i64 m.halt, (.slice A3 m.ins.length c3), (.slice A4 m.outs.length c4), .int .i64 m.count] 46) (by simp) #[.int .i64 b.pc, .int .i64 b.len, vb, .int .i64 b.fin, .int .i64 b.x, .int .i64 b.y, .int .i64 b.k] 25) (by first | (simp; done) | (simp; omega)) #[.int .i64 o.kind, .int .i64 o.x, .int .i64 o.y, .int .i64 o.k, .int .i64 o.at_] 58) (by first | (simp; done) | (simp; omega)) #[.slice none 0 0, .int .i64 0, .slice none 0 0, .int .i64 0, .bool false, .bool false, .int .i64 0, .slice none 0 0, .slice none 0 0, .int .i64 0] 46); simpa using this)
    have hFm_0 : ∀ oo, (((((w.alloc (Obj.cells #[(.slice (some ⟨g1, o1, none⟩) 4 c1), .int .i64 m.pc, (.slice (some ⟨g2, o2, none⟩) 64 c2), .int .i64 m.save, .bool m.lets, .bool m.waits, .int .i64 m.halt, (.slice A3 m.ins.length c3), (.slice A4 m.outs.length c4), .int .i64 m.count] 46)).alloc (Obj.cells #[.int .i64 b.pc, .int .i64 b.len, vb, .int .i64 b.fin, .int .i64 b.x, .int .i64 b.y, .int .i64 b.k] 25)).alloc (Obj.cells #[.int .i64 o.kind, .int .i64 o.x, .int .i64 o.y, .int .i64 o.k, .int .i64 o.at_] 58)).alloc (Obj.cells #[.slice none 0 0, .int .i64 0, .slice none 0 0, .int .i64 0, .bool false, .bool false, .int .i64 0, .slice none 0 0, .slice none 0 0, .int .i64 0] 46))).frozen? ⟨w.heap.size, oo, none⟩ = false := (fz_alloc (fz_alloc (fz_alloc (fz_new w #[(.slice (some ⟨g1, o1, none⟩) 4 c1), .int .i64 m.pc, (.slice (some ⟨g2, o2, none⟩) 64 c2), .int .i64 m.save, .bool m.lets, .bool m.waits, .int .i64 m.halt, (.slice A3 m.ins.length c3), (.slice A4 m.outs.length c4), .int .i64 m.count] 46 (by first | rfl | (simp; done))) (by first | (simp; done) | (simp; omega)) (Obj.cells #[.int .i64 b.pc, .int .i64 b.len, vb, .int .i64 b.fin, .int .i64 b.x, .int .i64 b.y, .int .i64 b.k] 25)) (by first | (simp; done) | (simp; omega)) (Obj.cells #[.int .i64 o.kind, .int .i64 o.x, .int .i64 o.y, .int .i64 o.k, .int .i64 o.at_] 58)) (by first | (simp; done) | (simp; omega)) (Obj.cells #[.slice none 0 0, .int .i64 0, .slice none 0 0, .int .i64 0, .bool false, .bool false, .int .i64 0, .slice none 0 0, .slice none 0 0, .int .i64 0] 46))
    have hBb_0 : Bx ((((w.alloc (Obj.cells #[(.slice (some ⟨g1, o1, none⟩) 4 c1), .int .i64 m.pc, (.slice (some ⟨g2, o2, none⟩) 64 c2), .int .i64 m.save, .bool m.lets, .bool m.waits, .int .i64 m.halt, (.slice A3 m.ins.length c3), (.slice A4 m.outs.length c4), .int .i64 m.count] 46)).alloc (Obj.cells #[.int .i64 b.pc, .int .i64 b.len, vb, .int .i64 b.fin, .int .i64 b.x, .int .i64 b.y, .int .i64 b.k] 25)).alloc (Obj.cells #[.int .i64 o.kind, .int .i64 o.x, .int .i64 o.y, .int .i64 o.k, .int .i64 o.at_] 58)).alloc (Obj.cells #[.slice none 0 0, .int .i64 0, .slice none 0 0, .int .i64 0, .bool false, .bool false, .int .i64 0, .slice none 0 0, .slice none 0 0, .int .i64 0] 46)) (w.heap.size + 1) [.int .i64 b.pc, .int .i64 b.len, vb, .int .i64 b.fin, .int .i64 b.x, .int .i64 b.y, .int .i64 b.k] := (by have := (Bx.alloc (Bx.alloc (Bx.new (w.alloc (Obj.cells #[(.slice (some ⟨g1, o1, none⟩) 4 c1), .int .i64 m.pc, (.slice (some ⟨g2, o2, none⟩) 64 c2), .int .i64 m.save, .bool m.lets, .bool m.waits, .int .i64 m.halt, (.slice A3 m.ins.length c3), (.slice A4 m.outs.length c4), .int .i64 m.count] 46)) #[.int .i64 b.pc, .int .i64 b.len, vb, .int .i64 b.fin, .int .i64 b.x, .int .i64 b.y, .int .i64 b.k] 25) (by simp) #[.int .i64 o.kind, .int .i64 o.x, .int .i64 o.y, .int .i64 o.k, .int .i64 o.at_] 58) (by first | (simp; done) | (simp; omega)) #[.slice none 0 0, .int .i64 0, .slice none 0 0, .int .i64 0, .bool false, .bool false, .int .i64 0, .slice none 0 0, .slice none 0 0, .int .i64 0] 46); simpa using this)
    have hFb_0 : ∀ oo, (((((w.alloc (Obj.cells #[(.slice (some ⟨g1, o1, none⟩) 4 c1), .int .i64 m.pc, (.slice (some ⟨g2, o2, none⟩) 64 c2), .int .i64 m.save, .bool m.lets, .bool m.waits, .int .i64 m.halt, (.slice A3 m.ins.length c3), (.slice A4 m.outs.length c4), .int .i64 m.count] 46)).alloc (Obj.cells #[.int .i64 b.pc, .int .i64 b.len, vb, .int .i64 b.fin, .int .i64 b.x, .int .i64 b.y, .int .i64 b.k] 25)).alloc (Obj.cells #[.int .i64 o.kind, .int .i64 o.x, .int .i64 o.y, .int .i64 o.k, .int .i64 o.at_] 58)).alloc (Obj.cells #[.slice none 0 0, .int .i64 0, .slice none 0 0, .int .i64 0, .bool false, .bool false, .int .i64 0, .slice none 0 0, .slice none 0 0, .int .i64 0] 46))).frozen? ⟨w.heap.size + 1, oo, none⟩ = false := (fz_alloc (fz_alloc (fz_new (w.alloc (Obj.cells #[(.slice (some ⟨g1, o1, none⟩) 4 c1), .int .i64 m.pc, (.slice (some ⟨g2, o2, none⟩) 64 c2), .int .i64 m.save, .bool m.lets, .bool m.waits, .int .i64 m.halt, (.slice A3 m.ins.length c3), (.slice A4 m.outs.length c4), .int .i64 m.count] 46)) #[.int .i64 b.pc, .int .i64 b.len, vb, .int .i64 b.fin, .int .i64 b.x, .int .i64 b.y, .int .i64 b.k] 25 (by first | rfl | (simp; done))) (by first | (simp; done) | (simp; omega)) (Obj.cells #[.int .i64 o.kind, .int .i64 o.x, .int .i64 o.y, .int .i64 o.k, .int .i64 o.at_] 58)) (by first | (simp; done) | (simp; omega)) (Obj.cells #[.slice none 0 0, .int .i64 0, .slice none 0 0, .int .i64 0, .bool false, .bool false, .int .i64 0, .slice none 0 0, .slice none 0 0, .int .i64 0] 46))
    have hBo_0 : Bx ((((w.alloc (Obj.cells #[(.slice (some ⟨g1, o1, none⟩) 4 c1), .int .i64 m.pc, (.slice (some ⟨g2, o2, none⟩) 64 c2), .int .i64 m.save, .bool m.lets, .bool m.waits, .int .i64 m.halt, (.slice A3 m.ins.length c3), (.slice A4 m.outs.length c4), .int .i64 m.count] 46)).alloc (Obj.cells #[.int .i64 b.pc, .int .i64 b.len, vb, .int .i64 b.fin, .int .i64 b.x, .int .i64 b.y, .int .i64 b.k] 25)).alloc (Obj.cells #[.int .i64 o.kind, .int .i64 o.x, .int .i64 o.y, .int .i64 o.k, .int .i64 o.at_] 58)).alloc (Obj.cells #[.slice none 0 0, .int .i64 0, .slice none 0 0, .int .i64 0, .bool false, .bool false, .int .i64 0, .slice none 0 0, .slice none 0 0, .int .i64 0] 46)) (w.heap.size + 1 + 1) [.int .i64 o.kind, .int .i64 o.x, .int .i64 o.y, .int .i64 o.k, .int .i64 o.at_] := (by have := (Bx.alloc (Bx.new ((w.alloc (Obj.cells #[(.slice (some ⟨g1, o1, none⟩) 4 c1), .int .i64 m.pc, (.slice (some ⟨g2, o2, none⟩) 64 c2), .int .i64 m.save, .bool m.lets, .bool m.waits, .int .i64 m.halt, (.slice A3 m.ins.length c3), (.slice A4 m.outs.length c4), .int .i64 m.count] 46)).alloc (Obj.cells #[.int .i64 b.pc, .int .i64 b.len, vb, .int .i64 b.fin, .int .i64 b.x, .int .i64 b.y, .int .i64 b.k] 25)) #[.int .i64 o.kind, .int .i64 o.x, .int .i64 o.y, .int .i64 o.k, .int .i64 o.at_] 58) (by simp) #[.slice none 0 0, .int .i64 0, .slice none 0 0, .int .i64 0, .bool false, .bool false, .int .i64 0, .slice none 0 0, .slice none 0 0, .int .i64 0] 46); simpa using this)
    have hFo_0 : ∀ oo, (((((w.alloc (Obj.cells #[(.slice (some ⟨g1, o1, none⟩) 4 c1), .int .i64 m.pc, (.slice (some ⟨g2, o2, none⟩) 64 c2), .int .i64 m.save, .bool m.lets, .bool m.waits, .int .i64 m.halt, (.slice A3 m.ins.length c3), (.slice A4 m.outs.length c4), .int .i64 m.count] 46)).alloc (Obj.cells #[.int .i64 b.pc, .int .i64 b.len, vb, .int .i64 b.fin, .int .i64 b.x, .int .i64 b.y, .int .i64 b.k] 25)).alloc (Obj.cells #[.int .i64 o.kind, .int .i64 o.x, .int .i64 o.y, .int .i64 o.k, .int .i64 o.at_] 58)).alloc (Obj.cells #[.slice none 0 0, .int .i64 0, .slice none 0 0, .int .i64 0, .bool false, .bool false, .int .i64 0, .slice none 0 0, .slice none 0 0, .int .i64 0] 46))).frozen? ⟨w.heap.size + 1 + 1, oo, none⟩ = false := (fz_alloc (fz_new ((w.alloc (Obj.cells #[(.slice (some ⟨g1, o1, none⟩) 4 c1), .int .i64 m.pc, (.slice (some ⟨g2, o2, none⟩) 64 c2), .int .i64 m.save, .bool m.lets, .bool m.waits, .int .i64 m.halt, (.slice A3 m.ins.length c3), (.slice A4 m.outs.length c4), .int .i64 m.count] 46)).alloc (Obj.cells #[.int .i64 b.pc, .int .i64 b.len, vb, .int .i64 b.fin, .int .i64 b.x, .int .i64 b.y, .int .i64 b.k] 25)) #[.int .i64 o.kind, .int .i64 o.x, .int .i64 o.y, .int .i64 o.k, .int .i64 o.at_] 58 (by first | rfl | (simp; done))) (by first | (simp; done) | (simp; omega)) (Obj.cells #[.slice none 0 0, .int .i64 0, .slice none 0 0, .int .i64 0, .bool false, .bool false, .int .i64 0, .slice none 0 0, .slice none 0 0, .int .i64 0] 46))
    have hBres_0 : Bx ((((w.alloc (Obj.cells #[(.slice (some ⟨g1, o1, none⟩) 4 c1), .int .i64 m.pc, (.slice (some ⟨g2, o2, none⟩) 64 c2), .int .i64 m.save, .bool m.lets, .bool m.waits, .int .i64 m.halt, (.slice A3 m.ins.length c3), (.slice A4 m.outs.length c4), .int .i64 m.count] 46)).alloc (Obj.cells #[.int .i64 b.pc, .int .i64 b.len, vb, .int .i64 b.fin, .int .i64 b.x, .int .i64 b.y, .int .i64 b.k] 25)).alloc (Obj.cells #[.int .i64 o.kind, .int .i64 o.x, .int .i64 o.y, .int .i64 o.k, .int .i64 o.at_] 58)).alloc (Obj.cells #[.slice none 0 0, .int .i64 0, .slice none 0 0, .int .i64 0, .bool false, .bool false, .int .i64 0, .slice none 0 0, .slice none 0 0, .int .i64 0] 46)) (w.heap.size + 1 + 1 + 1) [.slice none 0 0, .int .i64 0, .slice none 0 0, .int .i64 0, .bool false, .bool false, .int .i64 0, .slice none 0 0, .slice none 0 0, .int .i64 0] := (by have := (Bx.new (((w.alloc (Obj.cells #[(.slice (some ⟨g1, o1, none⟩) 4 c1), .int .i64 m.pc, (.slice (some ⟨g2, o2, none⟩) 64 c2), .int .i64 m.save, .bool m.lets, .bool m.waits, .int .i64 m.halt, (.slice A3 m.ins.length c3), (.slice A4 m.outs.length c4), .int .i64 m.count] 46)).alloc (Obj.cells #[.int .i64 b.pc, .int .i64 b.len, vb, .int .i64 b.fin, .int .i64 b.x, .int .i64 b.y, .int .i64 b.k] 25)).alloc (Obj.cells #[.int .i64 o.kind, .int .i64 o.x, .int .i64 o.y, .int .i64 o.k, .int .i64 o.at_] 58)) #[.slice none 0 0, .int .i64 0, .slice none 0 0, .int .i64 0, .bool false, .bool false, .int .i64 0, .slice none 0 0, .slice none 0 0, .int .i64 0] 46); simpa using this)
    have hFres_0 : ∀ oo, (((((w.alloc (Obj.cells #[(.slice (some ⟨g1, o1, none⟩) 4 c1), .int .i64 m.pc, (.slice (some ⟨g2, o2, none⟩) 64 c2), .int .i64 m.save, .bool m.lets, .bool m.waits, .int .i64 m.halt, (.slice A3 m.ins.length c3), (.slice A4 m.outs.length c4), .int .i64 m.count] 46)).alloc (Obj.cells #[.int .i64 b.pc, .int .i64 b.len, vb, .int .i64 b.fin, .int .i64 b.x, .int .i64 b.y, .int .i64 b.k] 25)).alloc (Obj.cells #[.int .i64 o.kind, .int .i64 o.x, .int .i64 o.y, .int .i64 o.k, .int .i64 o.at_] 58)).alloc (Obj.cells #[.slice none 0 0, .int .i64 0, .slice none 0 0, .int .i64 0, .bool false, .bool false, .int .i64 0, .slice none 0 0, .slice none 0 0, .int .i64 0] 46))).frozen? ⟨w.heap.size + 1 + 1 + 1, oo, none⟩ = false := (fz_new (((w.alloc (Obj.cells #[(.slice (some ⟨g1, o1, none⟩) 4 c1), .int .i64 m.pc, (.slice (some ⟨g2, o2, none⟩) 64 c2), .int .i64 m.save, .bool m.lets, .bool m.waits, .int .i64 m.halt, (.slice A3 m.ins.length c3), (.slice A4 m.outs.length c4), .int .i64 m.count] 46)).alloc (Obj.cells #[.int .i64 b.pc, .int .i64 b.len, vb, .int .i64 b.fin, .int .i64 b.x, .int .i64 b.y, .int .i64 b.k] 25)).alloc (Obj.cells #[.int .i64 o.kind, .int .i64 o.x, .int .i64 o.y, .int .i64 o.k, .int .i64 o.at_] 58)) #[.slice none 0 0, .int .i64 0, .slice none 0 0, .int .i64 0, .bool false, .bool false, .int .i64 0, .slice none 0 0, .slice none 0 0, .int .i64 0] 46 (by first | rfl | (simp; done)))
    generalize ((((w.alloc (Obj.cells #[(.slice (some ⟨g1, o1, none⟩) 4 c1), .int .i64 m.pc, (.slice (some ⟨g2, o2, none⟩) 64 c2), .int .i64 m.save, .bool m.lets, .bool m.waits, .int .i64 m.halt, (.slice A3 m.ins.length c3), (.slice A4 m.outs.length c4), .int .i64 m.count] 46)).alloc (Obj.cells #[.int .i64 b.pc, .int .i64 b.len, vb, .int .i64 b.fin, .int .i64 b.x, .int .i64 b.y, .int .i64 b.k] 25)).alloc (Obj.cells #[.int .i64 o.kind, .int .i64 o.x, .int .i64 o.y, .int .i64 o.k, .int .i64 o.at_] 58)).alloc (Obj.cells #[.slice none 0 0, .int .i64 0, .slice none 0 0, .int .i64 0, .bool false, .bool false, .int .i64 0, .slice none 0 0, .slice none 0 0, .int .i64 0] 46)) = w0 at *
    have ht0 : Turn (mfoot g1 g2 (.slice A4 m.outs.length c4)) w w0 := Turn.of_ext he0 _
    have hM0 : Mach 3 lo ((w.heap.size) :: (w.heap.size + 1) :: (w.heap.size + 1 + 1) :: (w.heap.size + 1 + 1 + 1) :: X) w0 g1 o1 c1 g2 o2 c2 (.slice A3 m.ins.length c3) (.slice A4 m.outs.length c4) m := hM.addXs he0 [w.heap.size, w.heap.size + 1, w.heap.size + 1 + 1, w.heap.size + 1 + 1 + 1] (by intro b hb; simp at hb; omega)
    have yg1 : g1 < w0.heap.size := by omega
    have yg2 : g2 < w0.heap.size := by omega
    obtain ⟨F3, wa, Fs, xs, hC⟩ := hM0
    have hfit : Fits (q : Int) := by unfold Fits; omega
    have ym : w.heap.size < w0.heap.size := by omega
    have xm0 := hBm_0 0 _ rfl
    have xm1 := hBm_0 1 _ rfl
    have xm2 := hBm_0 2 _ rfl
    have xm3 := hBm_0 3 _ rfl
    have xm4 := hBm_0 4 _ rfl
    have xm5 := hBm_0 5 _ rfl
    have xm6 := hBm_0 6 _ rfl
    have xm7 := hBm_0 7 _ rfl
    have xm8 := hBm_0 8 _ rfl
    have xm9 := hBm_0 9 _ rfl
    have fm := hFm_0
    have yb : w.heap.size + 1 < w0.heap.size := by omega
    have xb0 := hBb_0 0 _ rfl
    have xb1 := hBb_0 1 _ rfl
    have xb2 := hBb_0 2 _ rfl
    have xb3 := hBb_0 3 _ rfl
    have xb4 := hBb_0 4 _ rfl
    have xb5 := hBb_0 5 _ rfl
    have xb6 := hBb_0 6 _ rfl
    have fb := hFb_0
    have yo : w.heap.size + 1 + 1 < w0.heap.size := by omega
    have xo0 := hBo_0 0 _ rfl
    have xo1 := hBo_0 1 _ rfl
    have xo2 := hBo_0 2 _ rfl
    have xo3 := hBo_0 3 _ rfl
    have xo4 := hBo_0 4 _ rfl
    have fo := hFo_0
    have yres : w.heap.size + 1 + 1 + 1 < w0.heap.size := by omega
    have xres0 := hBres_0 0 _ rfl
    have xres1 := hBres_0 1 _ rfl
    have xres2 := hBres_0 2 _ rfl
    have xres3 := hBres_0 3 _ rfl
    have xres4 := hBres_0 4 _ rfl
    have xres5 := hBres_0 5 _ rfl
    have xres6 := hBres_0 6 _ rfl
    have xres7 := hBres_0 7 _ rfl
    have xres8 := hBres_0 8 _ rfl
    have xres9 := hBres_0 9 _ rfl
    have fres := hFres_0
    have hnot : ∀ b, w.heap.size ≤ b → b ∉ (Value.slice A4 m.outs.length c4).ownBlock.toList := fun b hb hm => by have := hown b (by simpa using hm); omega
    go_upto_region 4 with (at_builtin; go_must (refine wpList_append_push2 (α := Int) (w0 := wa) (wr := w0) rfl _ _ 41 rfl i0 _ 8 Try.underlying41 HI.out HZ0.out HZ1.out HZ2.out rfl (by decide) hC.s4 rfl (q : Int) #[.int .i64 (q : Int)] 3 [] _ rfl Ext.auto ⟨⟨rfl, hfit⟩, rfl⟩ (Fr.nil _ _) (by repeat (first | (exact fun _ h => absurd h (List.not_mem_nil)) | (refine List.forall_mem_cons.2 ⟨rfl, ?_⟩))) (by unfold maxLen; omega) (by omega) ?_); intro v' w9 xs' hA9 hg9 hb9; have hP := hC.push (W := (w0.alloc (.cells #[.int .i64 (q : Int)] 3))) Ext.auto hA9 hg9 hb9; obtain ⟨A9, c9, rfl, hl9, hm9⟩ := hP.form4; have hT9 := (Turn.of_grown (a := w0) (b := (w0.alloc (.cells #[.int .i64 (q : Int)] 3))) Ext.auto hg9); have hsz9 := hg9.size; have hBm9 := hT9.bx hBm_0 ym (hnot _ (by omega)); have hFm9 := fun oo => (hT9.frozen ym (hnot _ (by omega))).trans (hFm_0 oo); have hBb9 := hT9.bx hBb_0 yb (hnot _ (by omega)); have hFb9 := fun oo => (hT9.frozen yb (hnot _ (by omega))).trans (hFb_0 oo); have hBo9 := hT9.bx hBo_0 yo (hnot _ (by omega)); have hFo9 := fun oo => (hT9.frozen yo (hnot _ (by omega))).trans (hFo_0 oo); have hBres9 := hT9.bx hBres_0 yres (hnot _ (by omega)); have hFres9 := fun oo => (hT9.frozen yres (hnot _ (by omega))).trans (hFres_0 oo); have xq0 := hBm9 0 _ rfl; have xq1 := hBm9 1 _ rfl; have xq2 := hBm9 2 _ rfl; have xq3 := hBm9 3 _ rfl; have xq4 := hBm9 4 _ rfl; have xq5 := hBm9 5 _ rfl; have xq6 := hBm9 6 _ rfl; have xq7 := hBm9 7 _ rfl; have xq8 := hBm9 8 _ rfl; have xq9 := hBm9 9 _ rfl; have yq := Nat.lt_of_lt_of_le ym (Turn.size hT9))
    clear xm0 xm1 xm2 xm3 xm4 xm5 xm6 xm7 xm8 xm9 ym
    clear fm
    clear xb0 xb1 xb2 xb3 xb4 xb5 xb6 yb
    clear fb
    clear xo0 xo1 xo2 xo3 xo4 yo
    clear fo
    clear xres0 xres1 xres2 xres3 xres4 xres5 xres6 xres7 xres8 xres9 yres
    clear fres
    clear xq0 xq1 xq2 xq3 xq4 xq5 xq6 xq7 xq8 xq9
    have e9 : ({ m with outs := m.outs ++ [(q : Int)] } : MchMach).outs.length = m.outs.length + 1 := by simp
    rw [e9] at hP hl9 hb9
    clear e9
    have hO9 : ∀ q, (Value.slice A9 (m.outs.length + 1) c9).ownBlock = some q → (Value.slice A4 m.outs.length c4).ownBlock = some q ∨ w.heap.size ≤ q := fun q hq => by
      rcases hb9 with hb | hb
      · exact .inl (hb ▸ hq)
      · refine .inr ?_
        have hb2 := hb.symm.trans hq
        injection hb2 with hb2
        subst hb2
        simp
        omega
    clear hb9
    have hM1 := hP.far (p := ⟨w.heap.size, 8, none⟩) (by simp) (.slice A9 (m.outs.length + 1) c9)
    have ht1 : Turn (mfoot g1 g2 (.slice A4 m.outs.length c4)) w (w9.setCell ⟨w.heap.size, 8, none⟩ (.slice A9 (m.outs.length + 1) c9)) := (ht0.trans hT9 (fun x hx => .inl (by unfold mfoot; exact List.mem_cons_of_mem _ (List.mem_cons_of_mem _ hx)))).set (.inr (by show w.heap.size ≤ w.heap.size; omega)) _
    have hs1 : w.heap.size + 4 ≤ (w9.setCell ⟨w.heap.size, 8, none⟩ (.slice A9 (m.outs.length + 1) c9)).heap.size := by simp at hsz9 ⊢; omega
    have hBm_1 : Bx (w9.setCell ⟨w.heap.size, 8, none⟩ (.slice A9 (m.outs.length + 1) c9)) (w.heap.size) [(.slice (some ⟨g1, o1, none⟩) 4 c1), .int .i64 m.pc, (.slice (some ⟨g2, o2, none⟩) 64 c2), .int .i64 m.save, .bool m.lets, .bool m.waits, .int .i64 m.halt, (.slice A3 m.ins.length c3), (.slice A9 (m.outs.length + 1) c9), .int .i64 m.count] := by have := Bx.put hBm9 (j := 8) (by simp) (.slice A9 (m.outs.length + 1) c9); simpa using this
    have hFm_1 : ∀ oo, (w9.setCell ⟨w.heap.size, 8, none⟩ (.slice A9 (m.outs.length + 1) c9)).frozen? ⟨w.heap.size, oo, none⟩ = false := fz_set hFm9 _ _
    have hBb_1 : Bx (w9.setCell ⟨w.heap.size, 8, none⟩ (.slice A9 (m.outs.length + 1) c9)) (w.heap.size + 1) [.int .i64 b.pc, .int .i64 b.len, vb, .int .i64 b.fin, .int .i64 b.x, .int .i64 b.y, .int .i64 b.k] := hBb9.setCell (by show w.heap.size ≠ w.heap.size + 1; omega) _
    have hFb_1 : ∀ oo, (w9.setCell ⟨w.heap.size, 8, none⟩ (.slice A9 (m.outs.length + 1) c9)).frozen? ⟨w.heap.size + 1, oo, none⟩ = false := fz_set hFb9 _ _
    have hBo_1 : Bx (w9.setCell ⟨w.heap.size, 8, none⟩ (.slice A9 (m.outs.length + 1) c9)) (w.heap.size + 1 + 1) [.int .i64 o.kind, .int .i64 o.x, .int .i64 o.y, .int .i64 o.k, .int .i64 o.at_] := hBo9.setCell (by show w.heap.size ≠ w.heap.size + 1 + 1; omega) _
    have hFo_1 : ∀ oo, (w9.setCell ⟨w.heap.size, 8, none⟩ (.slice A9 (m.outs.length + 1) c9)).frozen? ⟨w.heap.size + 1 + 1, oo, none⟩ = false := fz_set hFo9 _ _
    have hBres_1 : Bx (w9.setCell ⟨w.heap.size, 8, none⟩ (.slice A9 (m.outs.length + 1) c9)) (w.heap.size + 1 + 1 + 1) [.slice none 0 0, .int .i64 0, .slice none 0 0, .int .i64 0, .bool false, .bool false, .int .i64 0, .slice none 0 0, .slice none 0 0, .int .i64 0] := hBres9.setCell (by show w.heap.size ≠ w.heap.size + 1 + 1 + 1; omega) _
    have hFres_1 : ∀ oo, (w9.setCell ⟨w.heap.size, 8, none⟩ (.slice A9 (m.outs.length + 1) c9)).frozen? ⟨w.heap.size + 1 + 1 + 1, oo, none⟩ = false := fz_set hFres9 _ _
    generalize (w9.setCell ⟨w.heap.size, 8, none⟩ (.slice A9 (m.outs.length + 1) c9)) = w1 at *
    clear hP hT9 hA9 hg9 hsz9 hC yq hBm9 hFm9 hBm_0 hFm_0 hBb9 hFb9 hBb_0 hFb_0 hBo9 hFo9 hBo_0 hFo_0 hBres9 hFres9 hBres_0 hFres_0
    have ym : w.heap.size < w1.heap.size := by omega
    have xm0 := hBm_1 0 _ rfl
    have xm1 := hBm_1 1 _ rfl
    have xm2 := hBm_1 2 _ rfl
    have xm3 := hBm_1 3 _ rfl
    have xm4 := hBm_1 4 _ rfl
    have xm5 := hBm_1 5 _ rfl
    have xm6 := hBm_1 6 _ rfl
    have xm7 := hBm_1 7 _ rfl
    have xm8 := hBm_1 8 _ rfl
    have xm9 := hBm_1 9 _ rfl
    have yres : w.heap.size + 1 + 1 + 1 < w1.heap.size := by omega
    have xres0 := hBres_1 0 _ rfl
    have xres1 := hBres_1 1 _ rfl
    have xres2 := hBres_1 2 _ rfl
    have xres3 := hBres_1 3 _ rfl
    have xres4 := hBres_1 4 _ rfl
    have xres5 := hBres_1 5 _ rfl
    have xres6 := hBres_1 6 _ rfl
    have xres7 := hBres_1 7 _ rfl
    have xres8 := hBres_1 8 _ rfl
    have xres9 := hBres_1 9 _ rfl
    have fres := hFres_1
    go_wp2
    refine bodyPost_ret (v := .tuple #[.agg #[(.slice (some ⟨g1, o1, none⟩) 4 c1), .int .i64 (({ m with outs := m.outs ++ [(q : Int)] } : MchMach).pc), (.slice (some ⟨g2, o2, none⟩) 64 c2), .int .i64 (({ m with outs := m.outs ++ [(q : Int)] } : MchMach).save), .bool ({ m with outs := m.outs ++ [(q : Int)] } : MchMach).lets, .bool ({ m with outs := m.outs ++ [(q : Int)] } : MchMach).waits, .int .i64 (({ m with outs := m.outs ++ [(q : Int)] } : MchMach).halt), (.slice A3 m.ins.length c3), (.slice A9 (m.outs.length + 1) c9), .int .i64 (({ m with outs := m.outs ++ [(q : Int)] } : MchMach).count)], .int .i64 0, .bool false]) (by simp [results, Try.results56, go_sem, rLeave, MchMach.setM, xres0, xres1, xres2, xres3, xres4, xres5, xres6, xres7, xres8, xres9]) rfl ⟨_, _, by rw [HV.out]; try rfl, by rw [HV.out]; exact Mach.dropX (Mach.dropX (Mach.dropX (Mach.dropX (Mach.hold hM1)))), Turn.hold ht1, hO9⟩
  have q7 : (o.kind == 7) = false := by simp [h7]
  by_cases h6 : o.kind = 6
  · 
    have HV := hide (show (rEvent b m o (q : Int) y) = (({ m with ins := m.ins.drop 1 } : MchMach), (m.ins[0]?).getD 0, false) by unfold rEvent; rw [if_neg h7, if_pos h6])
    have q6 : (o.kind == 6) = true := by simp [h6]
    clear hkd h7 h6
    by_cases hin : 0 < m.ins.length
    · 
      go_enter Try.func56, Try.ntmps56
      go_upto_region 1 with fail
      have he0 : Ext w ((((w.alloc (Obj.cells #[(.slice (some ⟨g1, o1, none⟩) 4 c1), .int .i64 m.pc, (.slice (some ⟨g2, o2, none⟩) 64 c2), .int .i64 m.save, .bool m.lets, .bool m.waits, .int .i64 m.halt, (.slice A3 m.ins.length c3), (.slice A4 m.outs.length c4), .int .i64 m.count] 46)).alloc (Obj.cells #[.int .i64 b.pc, .int .i64 b.len, vb, .int .i64 b.fin, .int .i64 b.x, .int .i64 b.y, .int .i64 b.k] 25)).alloc (Obj.cells #[.int .i64 o.kind, .int .i64 o.x, .int .i64 o.y, .int .i64 o.k, .int .i64 o.at_] 58)).alloc (Obj.cells #[.slice none 0 0, .int .i64 0, .slice none 0 0, .int .i64 0, .bool false, .bool false, .int .i64 0, .slice none 0 0, .slice none 0 0, .int .i64 0] 46)) := (Ext.auto)
      have hs0 : w.heap.size + 4 ≤ (((((w.alloc (Obj.cells #[(.slice (some ⟨g1, o1, none⟩) 4 c1), .int .i64 m.pc, (.slice (some ⟨g2, o2, none⟩) 64 c2), .int .i64 m.save, .bool m.lets, .bool m.waits, .int .i64 m.halt, (.slice A3 m.ins.length c3), (.slice A4 m.outs.length c4), .int .i64 m.count] 46)).alloc (Obj.cells #[.int .i64 b.pc, .int .i64 b.len, vb, .int .i64 b.fin, .int .i64 b.x, .int .i64 b.y, .int .i64 b.k] 25)).alloc (Obj.cells #[.int .i64 o.kind, .int .i64 o.x, .int .i64 o.y, .int .i64 o.k, .int .i64 o.at_] 58)).alloc (Obj.cells #[.slice none 0 0, .int .i64 0, .slice none 0 0, .int .i64 0, .bool false, .bool false, .int .i64 0, .slice none 0 0, .slice none 0 0, .int .i64 0] 46))).heap.size := by simp
      have hq0 := hide (show (((((w.alloc (Obj.cells #[(.slice (some ⟨g1, o1, none⟩) 4 c1), .int .i64 m.pc, (.slice (some ⟨g2, o2, none⟩) 64 c2), .int .i64 m.save, .bool m.lets, .bool m.waits, .int .i64 m.halt, (.slice A3 m.ins.length c3), (.slice A4 m.outs.length c4), .int .i64 m.count] 46)).alloc (Obj.cells #[.int .i64 b.pc, .int .i64 b.len, vb, .int .i64 b.fin, .int .i64 b.x, .int .i64 b.y, .int .i64 b.k] 25)).alloc (Obj.cells #[.int .i64 o.kind, .int .i64 o.x, .int .i64 o.y, .int .i64 o.k, .int .i64 o.at_] 58)).alloc (Obj.cells #[.slice none 0 0, .int .i64 0, .slice none 0 0, .int .i64 0, .bool false, .bool false, .int .i64 0, .slice none 0 0, .slice none 0 0, .int .i64 0] 46))).heap.size = w.heap.size + 4 by simp)
      have hBm_0 : Bx ((((w.alloc (Obj.cells #[(.slice (some ⟨g1, o1, none⟩) 4 c1), .int .i64 m.pc, (.slice (some ⟨g2, o2, none⟩) 64 c2), .int .i64 m.save, .bool m.lets, .bool m.waits, .int .i64 m.halt, (.slice A3 m.ins.length c3), (.slice A4 m.outs.length c4), .int .i64 m.count] 46)).alloc (Obj.cells #[.int .i64 b.pc, .int .i64 b.len, vb, .int .i64 b.fin, .int .i64 b.x, .int .i64 b.y, .int .i64 b.k] 25)).alloc (Obj.cells #[.int .i64 o.kind, .int .i64 o.x, .int .i64 o.y, .int .i64 o.k, .int .i64 o.at_] 58)).alloc (Obj.cells #[.slice none 0 0, .int .i64 0, .slice none 0 0, .int .i64 0, .bool false, .bool false, .int .i64 0, .slice none 0 0, .slice none 0 0, .int .i64 0] 46)) (w.heap.size) [(.slice (some ⟨g1, o1, none⟩) 4 c1), .int .i64 m.pc, (.slice (some ⟨g2, o2, none⟩) 64 c2), .int .i64 m.save, .bool m.lets, .bool m.waits, .int .i64 m.halt, (.slice A3 m.ins.length c3), (.slice A4 m.outs.length c4), .int .i64 m.count] := (by have := (Bx.alloc (Bx.alloc (Bx.alloc (Bx.new w #[(.slice (some ⟨g1, o1, none⟩) 4 c1), .int .i64 m.pc, (.slice (some ⟨g2, o2, none⟩) 64 c2), .int .i64 m.save, .bool m.lets, .bool m.waits, .int .i64 m.halt, (.slice A3 m.ins.length c3), (.slice A4 m.outs.length c4), .int .i64 m.count] 46) (by simp) #[.int .i64 b.pc, .int .i64 b.len, vb, .int .i64 b.fin, .int .i64 b.x, .int .i64 b.y, .int .i64 b.k] 25) (by first | (simp; done) | (simp; omega)) #[.int .i64 o.kind, .int .i64 o.x, .int .i64 o.y, .int .i64 o.k, .int .i64 o.at_] 58) (by first | (simp; done) | (simp; omega)) #[.slice none 0 0, .int .i64 0, .slice none 0 0, .int .i64 0, .bool false, .bool false, .int .i64 0, .slice none 0 0, .slice none 0 0, .int .i64 0] 46); simpa using this)
      have hFm_0 : ∀ oo, (((((w.alloc (Obj.cells #[(.slice (some ⟨g1, o1, none⟩) 4 c1), .int .i64 m.pc, (.slice (some ⟨g2, o2, none⟩) 64 c2), .int .i64 m.save, .bool m.lets, .bool m.waits, .int .i64 m.halt, (.slice A3 m.ins.length c3), (.slice A4 m.outs.length c4), .int .i64 m.count] 46)).alloc (Obj.cells #[.int .i64 b.pc, .int .i64 b.len, vb, .int .i64 b.fin, .int .i64 b.x, .int .i64 b.y, .int .i64 b.k] 25)).alloc (Obj.cells #[.int .i64 o.kind, .int .i64 o.x, .int .i64 o.y, .int .i64 o.k, .int .i64 o.at_] 58)).alloc (Obj.cells #[.slice none 0 0, .int .i64 0, .slice none 0 0, .int .i64 0, .bool false, .bool false, .int .i64 0, .slice none 0 0, .slice none 0 0, .int .i64 0] 46))).frozen? ⟨w.heap.size, oo, none⟩ = false := (fz_alloc (fz_alloc (fz_alloc (fz_new w #[(.slice (some ⟨g1, o1, none⟩) 4 c1), .int .i64 m.pc, (.slice (some ⟨g2, o2, none⟩) 64 c2), .int .i64 m.save, .bool m.lets, .bool m.waits, .int .i64 m.halt, (.slice A3 m.ins.length c3), (.slice A4 m.outs.length c4), .int .i64 m.count] 46 (by first | rfl | (simp; done))) (by first | (simp; done) | (simp; omega)) (Obj.cells #[.int .i64 b.pc, .int .i64 b.len, vb, .int .i64 b.fin, .int .i64 b.x, .int .i64 b.y, .int .i64 b.k] 25)) (by first | (simp; done) | (simp; omega)) (Obj.cells #[.int .i64 o.kind, .int .i64 o.x, .int .i64 o.y, .int .i64 o.k, .int .i64 o.at_] 58)) (by first | (simp; done) | (simp; omega)) (Obj.cells #[.slice none 0 0, .int .i64 0, .slice none 0 0, .int .i64 0, .bool false, .bool false, .int .i64 0, .slice none 0 0, .slice none 0 0, .int .i64 0] 46))
      have hBb_0 : Bx ((((w.alloc (Obj.cells #[(.slice (some ⟨g1, o1, none⟩) 4 c1), .int .i64 m.pc, (.slice (some ⟨g2, o2, none⟩) 64 c2), .int .i64 m.save, .bool m.lets, .bool m.waits, .int .i64 m.halt, (.slice A3 m.ins.length c3), (.slice A4 m.outs.length c4), .int .i64 m.count] 46)).alloc (Obj.cells #[.int .i64 b.pc, .int .i64 b.len, vb, .int .i64 b.fin, .int .i64 b.x, .int .i64 b.y, .int .i64 b.k] 25)).alloc (Obj.cells #[.int .i64 o.kind, .int .i64 o.x, .int .i64 o.y, .int .i64 o.k, .int .i64 o.at_] 58)).alloc (Obj.cells #[.slice none 0 0, .int .i64 0, .slice none 0 0, .int .i64 0, .bool false, .bool false, .int .i64 0, .slice none 0 0, .slice none 0 0, .int .i64 0] 46)) (w.heap.size + 1) [.int .i64 b.pc, .int .i64 b.len, vb, .int .i64 b.fin, .int .i64 b.x, .int .i64 b.y, .int .i64 b.k] := (by have := (Bx.alloc (Bx.alloc (Bx.new (w.alloc (Obj.cells #[(.slice (some ⟨g1, o1, none⟩) 4 c1), .int .i64 m.pc, (.slice (some ⟨g2, o2, none⟩) 64 c2), .int .i64 m.save, .bool m.lets, .bool m.waits, .int .i64 m.halt, (.slice A3 m.ins.length c3), (.slice A4 m.outs.length c4), .int .i64 m.count] 46)) #[.int .i64 b.pc, .int .i64 b.len, vb, .int .i64 b.fin, .int .i64 b.x, .int .i64 b.y, .int .i64 b.k] 25) (by simp) #[.int .i64 o.kind, .int .i64 o.x, .int .i64 o.y, .int .i64 o.k, .int .i64 o.at_] 58) (by first | (simp; done) | (simp; omega)) #[.slice none 0 0, .int .i64 0, .slice none 0 0, .int .i64 0, .bool false, .bool false, .int .i64 0, .slice none 0 0, .slice none 0 0, .int .i64 0] 46); simpa using this)
      have hFb_0 : ∀ oo, (((((w.alloc (Obj.cells #[(.slice (some ⟨g1, o1, none⟩) 4 c1), .int .i64 m.pc, (.slice (some ⟨g2, o2, none⟩) 64 c2), .int .i64 m.save, .bool m.lets, .bool m.waits, .int .i64 m.halt, (.slice A3 m.ins.length c3), (.slice A4 m.outs.length c4), .int .i64 m.count] 46)).alloc (Obj.cells #[.int .i64 b.pc, .int .i64 b.len, vb, .int .i64 b.fin, .int .i64 b.x, .int .i64 b.y, .int .i64 b.k] 25)).alloc (Obj.cells #[.int .i64 o.kind, .int .i64 o.x, .int .i64 o.y, .int .i64 o.k, .int .i64 o.at_] 58)).alloc (Obj.cells #[.slice none 0 0, .int .i64 0, .slice none 0 0, .int .i64 0, .bool false, .bool false, .int .i64 0, .slice none 0 0, .slice none 0 0, .int .i64 0] 46))).frozen? ⟨w.heap.size + 1, oo, none⟩ = false := (fz_alloc (fz_alloc (fz_new (w.alloc (Obj.cells #[(.slice (some ⟨g1, o1, none⟩) 4 c1), .int .i64 m.pc, (.slice (some ⟨g2, o2, none⟩) 64 c2), .int .i64 m.save, .bool m.lets, .bool m.waits, .int .i64 m.halt, (.slice A3 m.ins.length c3), (.slice A4 m.outs.length c4), .int .i64 m.count] 46)) #[.int .i64 b.pc, .int .i64 b.len, vb, .int .i64 b.fin, .int .i64 b.x, .int .i64 b.y, .int .i64 b.k] 25 (by first | rfl | (simp; done))) (by first | (simp; done) | (simp; omega)) (Obj.cells #[.int .i64 o.kind, .int .i64 o.x, .int .i64 o.y, .int .i64 o.k, .int .i64 o.at_] 58)) (by first | (simp; done) | (simp; omega)) (Obj.cells #[.slice none 0 0, .int .i64 0, .slice none 0 0, .int .i64 0, .bool false, .bool false, .int .i64 0, .slice none 0 0, .slice none 0 0, .int .i64 0] 46))
      have hBo_0 : Bx ((((w.alloc (Obj.cells #[(.slice (some ⟨g1, o1, none⟩) 4 c1), .int .i64 m.pc, (.slice (some ⟨g2, o2, none⟩) 64 c2), .int .i64 m.save, .bool m.lets, .bool m.waits, .int .i64 m.halt, (.slice A3 m.ins.length c3), (.slice A4 m.outs.length c4), .int .i64 m.count] 46)).alloc (Obj.cells #[.int .i64 b.pc, .int .i64 b.len, vb, .int .i64 b.fin, .int .i64 b.x, .int .i64 b.y, .int .i64 b.k] 25)).alloc (Obj.cells #[.int .i64 o.kind, .int .i64 o.x, .int .i64 o.y, .int .i64 o.k, .int .i64 o.at_] 58)).alloc (Obj.cells #[.slice none 0 0, .int .i64 0, .slice none 0 0, .int .i64 0, .bool false, .bool false, .int .i64 0, .slice none 0 0, .slice none 0 0, .int .i64 0] 46)) (w.heap.size + 1 + 1) [.int .i64 o.kind, .int .i64 o.x, .int .i64 o.y, .int .i64 o.k, .int .i64 o.at_] := (by have := (Bx.alloc (Bx.new ((w.alloc (Obj.cells #[(.slice (some ⟨g1, o1, none⟩) 4 c1), .int .i64 m.pc, (.slice (some ⟨g2, o2, none⟩) 64 c2), .int .i64 m.save, .bool m.lets, .bool m.waits, .int .i64 m.halt, (.slice A3 m.ins.length c3), (.slice A4 m.outs.length c4), .int .i64 m.count] 46)).alloc (Obj.cells #[.int .i64 b.pc, .int .i64 b.len, vb, .int .i64 b.fin, .int .i64 b.x, .int .i64 b.y, .int .i64 b.k] 25)) #[.int .i64 o.kind, .int .i64 o.x, .int .i64 o.y, .int .i64 o.k, .int .i64 o.at_] 58) (by simp) #[.slice none 0 0, .int .i64 0, .slice none 0 0, .int .i64 0, .bool false, .bool false, .int .i64 0, .slice none 0 0, .slice none 0 0, .int .i64 0] 46); simpa using this)
      have hFo_0 : ∀ oo, (((((w.alloc (Obj.cells #[(.slice (some ⟨g1, o1, none⟩) 4 c1), .int .i64 m.pc, (.slice (some ⟨g2, o2, none⟩) 64 c2), .int .i64 m.save, .bool m.lets, .bool m.waits, .int .i64 m.halt, (.slice A3 m.ins.length c3), (.slice A4 m.outs.length c4), .int .i64 m.count] 46)).alloc (Obj.cells #[.int .i64 b.pc, .int .i64 b.len, vb, .int .i64 b.fin, .int .i64 b.x, .int .i64 b.y, .int .i64 b.k] 25)).alloc (Obj.cells #[.int .i64 o.kind, .int .i64 o.x, .int .i64 o.y, .int .i64 o.k, .int .i64 o.at_] 58)).alloc (Obj.cells #[.slice none 0 0, .int .i64 0, .slice none 0 0, .int .i64 0, .bool false, .bool false, .int .i64 0, .slice none 0 0, .slice none 0 0, .int .i64 0] 46))).frozen? ⟨w.heap.size + 1 + 1, oo, none⟩ = false := (fz_alloc (fz_new ((w.alloc (Obj.cells #[(.slice (some ⟨g1, o1, none⟩) 4 c1), .int .i64 m.pc, (.slice (some ⟨g2, o2, none⟩) 64 c2), .int .i64 m.save, .bool m.lets, .bool m.waits, .int .i64 m.halt, (.slice A3 m.ins.length c3), (.slice A4 m.outs.length c4), .int .i64 m.count] 46)).alloc (Obj.cells #[.int .i64 b.pc, .int .i64 b.len, vb, .int .i64 b.fin, .int .i64 b.x, .int .i64 b.y, .int .i64 b.k] 25)) #[.int .i64 o.kind, .int .i64 o.x, .int .i64 o.y, .int .i64 o.k, .int .i64 o.at_] 58 (by first | rfl | (simp; done))) (by first | (simp; done) | (simp; omega)) (Obj.cells #[.slice none 0 0, .int .i64 0, .slice none 0 0, .int .i64 0, .bool false, .bool false, .int .i64 0, .slice none 0 0, .slice none 0 0, .int .i64 0] 46))
      have hBres_0 : Bx ((((w.alloc (Obj.cells #[(.slice (some ⟨g1, o1, none⟩) 4 c1), .int .i64 m.pc, (.slice (some ⟨g2, o2, none⟩) 64 c2), .int .i64 m.save, .bool m.lets, .bool m.waits, .int .i64 m.halt, (.slice A3 m.ins.length c3), (.slice A4 m.outs.length c4), .int .i64 m.count] 46)).alloc (Obj.cells #[.int .i64 b.pc, .int .i64 b.len, vb, .int .i64 b.fin, .int .i64 b.x, .int .i64 b.y, .int .i64 b.k] 25)).alloc (Obj.cells #[.int .i64 o.kind, .int .i64 o.x, .int .i64 o.y, .int .i64 o.k, .int .i64 o.at_] 58)).alloc (Obj.cells #[.slice none 0 0, .int .i64 0, .slice none 0 0, .int .i64 0, .bool false, .bool false, .int .i64 0, .slice none 0 0, .slice none 0 0, .int .i64 0] 46)) (w.heap.size + 1 + 1 + 1) [.slice none 0 0, .int .i64 0, .slice none 0 0, .int .i64 0, .bool false, .bool false, .int .i64 0, .slice none 0 0, .slice none 0 0, .int .i64 0] := (by have := (Bx.new (((w.alloc (Obj.cells #[(.slice (some ⟨g1, o1, none⟩) 4 c1), .int .i64 m.pc, (.slice (some ⟨g2, o2, none⟩) 64 c2), .int .i64 m.save, .bool m.lets, .bool m.waits, .int .i64 m.halt, (.slice A3 m.ins.length c3), (.slice A4 m.outs.length c4), .int .i64 m.count] 46)).alloc (Obj.cells #[.int .i64 b.pc, .int .i64 b.len, vb, .int .i64 b.fin, .int .i64 b.x, .int .i64 b.y, .int .i64 b.k] 25)).alloc (Obj.cells #[.int .i64 o.kind, .int .i64 o.x, .int .i64 o.y, .int .i64 o.k, .int .i64 o.at_] 58)) #[.slice none 0 0, .int .i64 0, .slice none 0 0, .int .i64 0, .bool false, .bool false, .int .i64 0, .slice none 0 0, .slice none 0 0, .int .i64 0] 46); simpa using this)
      have hFres_0 : ∀ oo, (((((w.alloc (Obj.cells #[(.slice (some ⟨g1, o1, none⟩) 4 c1), .int .i64 m.pc, (.slice (some ⟨g2, o2, none⟩) 64 c2), .int .i64 m.save, .bool m.lets, .bool m.waits, .int .i64 m.halt, (.slice A3 m.ins.length c3), (.slice A4 m.outs.length c4), .int .i64 m.count] 46)).alloc (Obj.cells #[.int .i64 b.pc, .int .i64 b.len, vb, .int .i64 b.fin, .int .i64 b.x, .int .i64 b.y, .int .i64 b.k] 25)).alloc (Obj.cells #[.int .i64 o.kind, .int .i64 o.x, .int .i64 o.y, .int .i64 o.k, .int .i64 o.at_] 58)).alloc (Obj.cells #[.slice none 0 0, .int .i64 0, .slice none 0 0, .int .i64 0, .bool false, .bool false, .int .i64 0, .slice none 0 0, .slice none 0 0, .int .i64 0] 46))).frozen? ⟨w.heap.size + 1 + 1 + 1, oo, none⟩ = false := (fz_new (((w.alloc (Obj.cells #[(.slice (some ⟨g1, o1, none⟩) 4 c1), .int .i64 m.pc, (.slice (some ⟨g2, o2, none⟩) 64 c2), .int .i64 m.save, .bool m.lets, .bool m.waits, .int .i64 m.halt, (.slice A3 m.ins.length c3), (.slice A4 m.outs.length c4), .int .i64 m.count] 46)).alloc (Obj.cells #[.int .i64 b.pc, .int .i64 b.len, vb, .int .i64 b.fin, .int .i64 b.x, .int .i64 b.y, .int .i64 b.k] 25)).alloc (Obj.cells #[.int .i64 o.kind, .int .i64 o.x, .int .i64 o.y, .int .i64 o.k, .int .i64 o.at_] 58)) #[.slice none 0 0, .int .i64 0, .slice none 0 0, .int .i64 0, .bool false, .bool false, .int .i64 0, .slice none 0 0, .slice none 0 0, .int .i64 0] 46 (by first | rfl | (simp; done)))
      generalize ((((w.alloc (Obj.cells #[(.slice (some ⟨g1, o1, none⟩) 4 c1), .int .i64 m.pc, (.slice (some ⟨g2, o2, none⟩) 64 c2), .int .i64 m.save, .bool m.lets, .bool m.waits, .int .i64 m.halt, (.slice A3 m.ins.length c3), (.slice A4 m.outs.length c4), .int .i64 m.count] 46)).alloc (Obj.cells #[.int .i64 b.pc, .int .i64 b.len, vb, .int .i64 b.fin, .int .i64 b.x, .int .i64 b.y, .int .i64 b.k] 25)).alloc (Obj.cells #[.int .i64 o.kind, .int .i64 o.x, .int .i64 o.y, .int .i64 o.k, .int .i64 o.at_] 58)).alloc (Obj.cells #[.slice none 0 0, .int .i64 0, .slice none 0 0, .int .i64 0, .bool false, .bool false, .int .i64 0, .slice none 0 0, .slice none 0 0, .int .i64 0] 46)) = w0 at *
      have ht0 : Turn (mfoot g1 g2 (.slice A4 m.outs.length c4)) w w0 := Turn.of_ext he0 _
      have hM0 : Mach 3 lo ((w.heap.size) :: (w.heap.size + 1) :: (w.heap.size + 1 + 1) :: (w.heap.size + 1 + 1 + 1) :: X) w0 g1 o1 c1 g2 o2 c2 (.slice A3 m.ins.length c3) (.slice A4 m.outs.length c4) m := hM.addXs he0 [w.heap.size, w.heap.size + 1, w.heap.size + 1 + 1, w.heap.size + 1 + 1 + 1] (by intro b hb; simp at hb; omega)
      have yg1 : g1 < w0.heap.size := by omega
      have yg2 : g2 < w0.heap.size := by omega
      have q1 : decide (0 < m.ins.length) = true := by simp [hin]
      obtain ⟨bi, oi, o3, rfl, hif, hbi, -, hci, -, e0, hM0⟩ := hM0.dropIns hin
      have HN := hide (show (m.ins[0]?).getD 0 = m.ins[0] by rw [List.getElem?_eq_getElem hin]; rfl)
      have z0 : (0 : Int) < (m.ins.length : Int) := by omega
      have z1 : (1 : Int) ≤ (m.ins.length : Int) := by omega
      have ym : w.heap.size < w0.heap.size := by omega
      have xm0 := hBm_0 0 _ rfl
      have xm1 := hBm_0 1 _ rfl
      have xm2 := hBm_0 2 _ rfl
      have xm3 := hBm_0 3 _ rfl
      have xm4 := hBm_0 4 _ rfl
      have xm5 := hBm_0 5 _ rfl
      have xm6 := hBm_0 6 _ rfl
      have xm7 := hBm_0 7 _ rfl
      have xm8 := hBm_0 8 _ rfl
      have xm9 := hBm_0 9 _ rfl
      have fm := hFm_0
      have yb : w.heap.size + 1 < w0.heap.size := by omega
      have xb0 := hBb_0 0 _ rfl
      have xb1 := hBb_0 1 _ rfl
      have xb2 := hBb_0 2 _ rfl
      have xb3 := hBb_0 3 _ rfl
      have xb4 := hBb_0 4 _ rfl
      have xb5 := hBb_0 5 _ rfl
      have xb6 := hBb_0 6 _ rfl
      have fb := hFb_0
      have yo : w.heap.size + 1 + 1 < w0.heap.size := by omega
      have xo0 := hBo_0 0 _ rfl
      have xo1 := hBo_0 1 _ rfl
      have xo2 := hBo_0 2 _ rfl
      have xo3 := hBo_0 3 _ rfl
      have xo4 := hBo_0 4 _ rfl
      have fo := hFo_0
      have yres : w.heap.size + 1 + 1 + 1 < w0.heap.size := by omega
      have xres0 := hBres_0 0 _ rfl
      have xres1 := hBres_0 1 _ rfl
      have xres2 := hBres_0 2 _ rfl
      have xres3 := hBres_0 3 _ rfl
      have xres4 := hBres_0 4 _ rfl
      have xres5 := hBres_0 5 _ rfl
      have xres6 := hBres_0 6 _ rfl
      have xres7 := hBres_0 7 _ rfl
      have xres8 := hBres_0 8 _ rfl
      have xres9 := hBres_0 9 _ rfl
      have fres := hFres_0
      go_upto_region 10 with fail
      clear xm0 xm1 xm2 xm3 xm4 xm5 xm6 xm7 xm8 xm9 ym
      clear fm
      clear xb0 xb1 xb2 xb3 xb4 xb5 xb6 yb
      clear fb
      clear xo0 xo1 xo2 xo3 xo4 yo
      clear fo
      clear xres0 xres1 xres2 xres3 xres4 xres5 xres6 xres7 xres8 xres9 yres
      clear fres
      try simp only [hif]
      clear hif
      have hM1 := hM0.far (p := ⟨w.heap.size, 7, none⟩) (by simp) (.slice (some ⟨bi, o3, none⟩) (m.ins.length - 1) (c3 - 1))
      have ht1 : Turn (mfoot g1 g2 (.slice A4 m.outs.length c4)) w (w0.setCell ⟨w.heap.size, 7, none⟩ (.slice (some ⟨bi, o3, none⟩) (m.ins.length - 1) (c3 - 1))) := ht0.set (.inr (by show w.heap.size ≤ w.heap.size; omega)) _
      have hs1 : w.heap.size + 4 ≤ (w0.setCell ⟨w.heap.size, 7, none⟩ (.slice (some ⟨bi, o3, none⟩) (m.ins.length - 1) (c3 - 1))).heap.size := by simp; omega
      have hBm_1 : Bx (w0.setCell ⟨w.heap.size, 7, none⟩ (.slice (some ⟨bi, o3, none⟩) (m.ins.length - 1) (c3 - 1))) (w.heap.size) [(.slice (some ⟨g1, o1, none⟩) 4 c1), .int .i64 m.pc, (.slice (some ⟨g2, o2, none⟩) 64 c2), .int .i64 m.save, .bool m.lets, .bool m.waits, .int .i64 m.halt, (.slice (some ⟨bi, o3, none⟩) (m.ins.length - 1) (c3 - 1)), (.slice A4 m.outs.length c4), .int .i64 m.count] := by have := Bx.put hBm_0 (j := 7) (by simp) (.slice (some ⟨bi, o3, none⟩) (m.ins.length - 1) (c3 - 1)); simpa using this
      have hFm_1 : ∀ oo, (w0.setCell ⟨w.heap.size, 7, none⟩ (.slice (some ⟨bi, o3, none⟩) (m.ins.length - 1) (c3 - 1))).frozen? ⟨w.heap.size, oo, none⟩ = false := fz_set hFm_0 _ _
      have hBb_1 : Bx (w0.setCell ⟨w.heap.size, 7, none⟩ (.slice (some ⟨bi, o3, none⟩) (m.ins.length - 1) (c3 - 1))) (w.heap.size + 1) [.int .i64 b.pc, .int .i64 b.len, vb, .int .i64 b.fin, .int .i64 b.x, .int .i64 b.y, .int .i64 b.k] := hBb_0.setCell (by show w.heap.size ≠ w.heap.size + 1; omega) _
      have hFb_1 : ∀ oo, (w0.setCell ⟨w.heap.size, 7, none⟩ (.slice (some ⟨bi, o3, none⟩) (m.ins.length - 1) (c3 - 1))).frozen? ⟨w.heap.size + 1, oo, none⟩ = false := fz_set hFb_0 _ _
      have hBo_1 : Bx (w0.setCell ⟨w.heap.size, 7, none⟩ (.slice (some ⟨bi, o3, none⟩) (m.ins.length - 1) (c3 - 1))) (w.heap.size + 1 + 1) [.int .i64 o.kind, .int .i64 o.x, .int .i64 o.y, .int .i64 o.k, .int .i64 o.at_] := hBo_0.setCell (by show w.heap.size ≠ w.heap.size + 1 + 1; omega) _
      have hFo_1 : ∀ oo, (w0.setCell ⟨w.heap.size, 7, none⟩ (.slice (some ⟨bi, o3, none⟩) (m.ins.length - 1) (c3 - 1))).frozen? ⟨w.heap.size + 1 + 1, oo, none⟩ = false := fz_set hFo_0 _ _
      have hBres_1 : Bx (w0.setCell ⟨w.heap.size, 7, none⟩ (.slice (some ⟨bi, o3, none⟩) (m.ins.length - 1) (c3 - 1))) (w.heap.size + 1 + 1 + 1) [.slice none 0 0, .int .i64 0, .slice none 0 0, .int .i64 0, .bool false, .bool false, .int .i64 0, .slice none 0 0, .slice none 0 0, .int .i64 0] := hBres_0.setCell (by show w.heap.size ≠ w.heap.size + 1 + 1 + 1; omega) _
      have hFres_1 : ∀ oo, (w0.setCell ⟨w.heap.size, 7, none⟩ (.slice (some ⟨bi, o3, none⟩) (m.ins.length - 1) (c3 - 1))).frozen? ⟨w.heap.size + 1 + 1 + 1, oo, none⟩ = false := fz_set hFres_0 _ _
      generalize (w0.setCell ⟨w.heap.size, 7, none⟩ (.slice (some ⟨bi, o3, none⟩) (m.ins.length - 1) (c3 - 1))) = w1 at *
      clear hBm_0 hFm_0 hBb_0 hFb_0 hBo_0 hFo_0 hBres_0 hFres_0
      have ym : w.heap.size < w1.heap.size := by omega
      have xm0 := hBm_1 0 _ rfl
      have xm1 := hBm_1 1 _ rfl
      have xm2 := hBm_1 2 _ rfl
      have xm3 := hBm_1 3 _ rfl
      have xm4 := hBm_1 4 _ rfl
      have xm5 := hBm_1 5 _ rfl
      have xm6 := hBm_1 6 _ rfl
      have xm7 := hBm_1 7 _ rfl
      have xm8 := hBm_1 8 _ rfl
      have xm9 := hBm_1 9 _ rfl
      have HW := hide (HV.out.trans (by rw [HN.out]))
      have yres : w.heap.size + 1 + 1 + 1 < w1.heap.size := by omega
      have xres0 := hBres_1 0 _ rfl
      have xres1 := hBres_1 1 _ rfl
      have xres2 := hBres_1 2 _ rfl
      have xres3 := hBres_1 3 _ rfl
      have xres4 := hBres_1 4 _ rfl
      have xres5 := hBres_1 5 _ rfl
      have xres6 := hBres_1 6 _ rfl
      have xres7 := hBres_1 7 _ rfl
      have xres8 := hBres_1 8 _ rfl
      have xres9 := hBres_1 9 _ rfl
      have fres := hFres_1
      go_wp2
      refine bodyPost_ret (v := .tuple #[.agg #[(.slice (some ⟨g1, o1, none⟩) 4 c1), .int .i64 (({ m with ins := m.ins.drop 1 } : MchMach).pc), (.slice (some ⟨g2, o2, none⟩) 64 c2), .int .i64 (({ m with ins := m.ins.drop 1 } : MchMach).save), .bool ({ m with ins := m.ins.drop 1 } : MchMach).lets, .bool ({ m with ins := m.ins.drop 1 } : MchMach).waits, .int .i64 (({ m with ins := m.ins.drop 1 } : MchMach).halt), (.slice (some ⟨bi, o3, none⟩) (m.ins.length - 1) (c3 - 1)), (.slice A4 m.outs.length c4), .int .i64 (({ m with ins := m.ins.drop 1 } : MchMach).count)], .int .i64 m.ins[0], .bool false]) (by simp [results, Try.results56, go_sem, rLeave, MchMach.setM, xres0, xres1, xres2, xres3, xres4, xres5, xres6, xres7, xres8, xres9]) rfl ⟨_, _, by rw [HW.out]; try rfl, by rw [HW.out]; exact Mach.dropX (Mach.dropX (Mach.dropX (Mach.dropX (Mach.hold hM1)))), Turn.hold ht1, fun q hq => .inl hq⟩
    · 
      go_enter Try.func56, Try.ntmps56
      go_upto_region 1 with fail
      have he0 : Ext w ((((w.alloc (Obj.cells #[(.slice (some ⟨g1, o1, none⟩) 4 c1), .int .i64 m.pc, (.slice (some ⟨g2, o2, none⟩) 64 c2), .int .i64 m.save, .bool m.lets, .bool m.waits, .int .i64 m.halt, (.slice A3 m.ins.length c3), (.slice A4 m.outs.length c4), .int .i64 m.count] 46)).alloc (Obj.cells #[.int .i64 b.pc, .int .i64 b.len, vb, .int .i64 b.fin, .int .i64 b.x, .int .i64 b.y, .int .i64 b.k] 25)).alloc (Obj.cells #[.int .i64 o.kind, .int .i64 o.x, .int .i64 o.y, .int .i64 o.k, .int .i64 o.at_] 58)).alloc (Obj.cells #[.slice none 0 0, .int .i64 0, .slice none 0 0, .int .i64 0, .bool false, .bool false, .int .i64 0, .slice none 0 0, .slice none 0 0, .int .i64 0] 46)) := (Ext.auto)
      have hs0 : w.heap.size + 4 ≤ (((((w.alloc (Obj.cells #[(.slice (some ⟨g1, o1, none⟩) 4 c1), .int .i64 m.pc, (.slice (some ⟨g2, o2, none⟩) 64 c2), .int .i64 m.save, .bool m.lets, .bool m.waits, .int .i64 m.halt, (.slice A3 m.ins.length c3), (.slice A4 m.outs.length c4), .int .i64 m.count] 46)).alloc (Obj.cells #[.int .i64 b.pc, .int .i64 b.len, vb, .int .i64 b.fin, .int .i64 b.x, .int .i64 b.y, .int .i64 b.k] 25)).alloc (Obj.cells #[.int .i64 o.kind, .int .i64 o.x, .int .i64 o.y, .int .i64 o.k, .int .i64 o.at_] 58)).alloc (Obj.cells #[.slice none 0 0, .int .i64 0, .slice none 0 0, .int .i64 0, .bool false, .bool false, .int .i64 0, .slice none 0 0, .slice none 0 0, .int .i64 0] 46))).heap.size := by simp
      have hq0 := hide (show (((((w.alloc (Obj.cells #[(.slice (some ⟨g1, o1, none⟩) 4 c1), .int .i64 m.pc, (.slice (some ⟨g2, o2, none⟩) 64 c2), .int .i64 m.save, .bool m.lets, .bool m.waits, .int .i64 m.halt, (.slice A3 m.ins.length c3), (.slice A4 m.outs.length c4), .int .i64 m.count] 46)).alloc (Obj.cells #[.int .i64 b.pc, .int .i64 b.len, vb, .int .i64 b.fin, .int .i64 b.x, .int .i64 b.y, .int .i64 b.k] 25)).alloc (Obj.cells #[.int .i64 o.kind, .int .i64 o.x, .int .i64 o.y, .int .i64 o.k, .int .i64 o.at_] 58)).alloc (Obj.cells #[.slice none 0 0, .int .i64 0, .slice none 0 0, .int .i64 0, .bool false, .bool false, .int .i64 0, .slice none 0 0, .slice none 0 0, .int .i64 0] 46))).heap.size = w.heap.size + 4 by simp)
      have hBm_0 : Bx ((((w.alloc (Obj.cells #[(.slice (some ⟨g1, o1, none⟩) 4 c1), .int .i64 m.pc, (.slice (some ⟨g2, o2, none⟩) 64 c2), .int .i64 m.save, .bool m.lets, .bool m.waits, .int .i64 m.halt, (.slice A3 m.ins.length c3), (.slice A4 m.outs.length c4), .int .i64 m.count] 46)).alloc (Obj.cells #[.int .i64 b.pc, .int .i64 b.len, vb, .int .i64 b.fin, .int .i64 b.x, .int .i64 b.y, .int .i64 b.k] 25)).alloc (Obj.cells #[.int .i64 o.kind, .int .i64 o.x, .int .i64 o.y, .int .i64 o.k, .int .i64 o.at_] 58)).alloc (Obj.cells #[.slice none 0 0, .int .i64 0, .slice none 0 0, .int .i64 0, .bool false, .bool false, .int .i64 0, .slice none 0 0, .slice none 0 0, .int .i64 0] 46)) (w.heap.size) [(.slice (some ⟨g1, o1, none⟩) 4 c1), .int .i64 m.pc, (.slice (some ⟨g2, o2, none⟩) 64 c2), .int .i64 m.save, .bool m.lets, .bool m.waits, .int .i64 m.halt, (.slice A3 m.ins.length c3), (.slice A4 m.outs.length c4), .int .i64 m.count] := (by have := (Bx.alloc (Bx.alloc (Bx.alloc (Bx.new w #[(.slice (some ⟨g1, o1, none⟩) 4 c1), .int .i64 m.pc, (.slice (some ⟨g2, o2, none⟩) 64 c2), .int .i64 m.save, .bool m.lets, .bool m.waits, .int .i64 m.halt, (.slice A3 m.ins.length c3), (.slice A4 m.outs.length c4), .int .i64 m.count] 46) (by simp) #[.int .i64 b.pc, .int .i64 b.len, vb, .int .i64 b.fin, .int .i64 b.x, .int .i64 b.y, .int .i64 b.k] 25) (by first | (simp; done) | (simp; omega)) #[.int .i64 o.kind, .int .i64 o.x, .int .i64 o.y, .int .i64 o.k, .int .i64 o.at_] 58) (by first | (simp; done) | (simp; omega)) #[.slice none 0 0, .int .i64 0, .slice none 0 0, .int .i64 0, .bool false, .bool false, .int .i64 0, .slice none 0 0, .slice none 0 0, .int .i64 0] 46); simpa using this)
      have hFm_0 : ∀ oo, (((((w.alloc (Obj.cells #[(.slice (some ⟨g1, o1, none⟩) 4 c1), .int .i64 m.pc, (.slice (some ⟨g2, o2, none⟩) 64 c2), .int .i64 m.save, .bool m.lets, .bool m.waits, .int .i64 m.halt, (.slice A3 m.ins.length c3), (.slice A4 m.outs.length c4), .int .i64 m.count] 46)).alloc (Obj.cells #[.int .i64 b.pc, .int .i64 b.len, vb, .int .i64 b.fin, .int .i64 b.x, .int .i64 b.y, .int .i64 b.k] 25)).alloc (Obj.cells #[.int .i64 o.kind, .int .i64 o.x, .int .i64 o.y, .int .i64 o.k, .int .i64 o.at_] 58)).alloc (Obj.cells #[.slice none 0 0, .int .i64 0, .slice none 0 0, .int .i64 0, .bool false, .bool false, .int .i64 0, .slice none 0 0, .slice none 0 0, .int .i64 0] 46))).frozen? ⟨w.heap.size, oo, none⟩ = false := (fz_alloc (fz_alloc (fz_alloc (fz_new w #[(.slice (some ⟨g1, o1, none⟩) 4 c1), .int .i64 m.pc, (.slice (some ⟨g2, o2, none⟩) 64 c2), .int .i64 m.save, .bool m.lets, .bool m.waits, .int .i64 m.halt, (.slice A3 m.ins.length c3), (.slice A4 m.outs.length c4), .int .i64 m.count] 46 (by first | rfl | (simp; done))) (by first | (simp; done) | (simp; omega)) (Obj.cells #[.int .i64 b.pc, .int .i64 b.len, vb, .int .i64 b.fin, .int .i64 b.x, .int .i64 b.y, .int .i64 b.k] 25)) (by first | (simp; done) | (simp; omega)) (Obj.cells #[.int .i64 o.kind, .int .i64 o.x, .int .i64 o.y, .int .i64 o.k, .int .i64 o.at_] 58)) (by first | (simp; done) | (simp; omega)) (Obj.cells #[.slice none 0 0, .int .i64 0, .slice none 0 0, .int .i64 0, .bool false, .bool false, .int .i64 0, .slice none 0 0, .slice none 0 0, .int .i64 0] 46))
      have hBb_0 : Bx ((((w.alloc (Obj.cells #[(.slice (some ⟨g1, o1, none⟩) 4 c1), .int .i64 m.pc, (.slice (some ⟨g2, o2, none⟩) 64 c2), .int .i64 m.save, .bool m.lets, .bool m.waits, .int .i64 m.halt, (.slice A3 m.ins.length c3), (.slice A4 m.outs.length c4), .int .i64 m.count] 46)).alloc (Obj.cells #[.int .i64 b.pc, .int .i64 b.len, vb, .int .i64 b.fin, .int .i64 b.x, .int .i64 b.y, .int .i64 b.k] 25)).alloc (Obj.cells #[.int .i64 o.kind, .int .i64 o.x, .int .i64 o.y, .int .i64 o.k, .int .i64 o.at_] 58)).alloc (Obj.cells #[.slice none 0 0, .int .i64 0, .slice none 0 0, .int .i64 0, .bool false, .bool false, .int .i64 0, .slice none 0 0, .slice none 0 0, .int .i64 0] 46)) (w.heap.size + 1) [.int .i64 b.pc, .int .i64 b.len, vb, .int .i64 b.fin, .int .i64 b.x, .int .i64 b.y, .int .i64 b.k] := (by have := (Bx.alloc (Bx.alloc (Bx.new (w.alloc (Obj.cells #[(.slice (some ⟨g1, o1, none⟩) 4 c1), .int .i64 m.pc, (.slice (some ⟨g2, o2, none⟩) 64 c2), .int .i64 m.save, .bool m.lets, .bool m.waits, .int .i64 m.halt, (.slice A3 m.ins.length c3), (.slice A4 m.outs.length c4), .int .i64 m.count] 46)) #[.int .i64 b.pc, .int .i64 b.len, vb, .int .i64 b.fin, .int .i64 b.x, .int .i64 b.y, .int .i64 b.k] 25) (by simp) #[.int .i64 o.kind, .int .i64 o.x, .int .i64 o.y, .int .i64 o.k, .int .i64 o.at_] 58) (by first | (simp; done) | (simp; omega)) #[.slice none 0 0, .int .i64 0, .slice none 0 0, .int .i64 0, .bool false, .bool false, .int .i64 0, .slice none 0 0, .slice none 0 0, .int .i64 0] 46); simpa using this)
      have hFb_0 : ∀ oo, (((((w.alloc (Obj.cells #[(.slice (some ⟨g1, o1, none⟩) 4 c1), .int .i64 m.pc, (.slice (some ⟨g2, o2, none⟩) 64 c2), .int .i64 m.save, .bool m.lets, .bool m.waits, .int .i64 m.halt, (.slice A3 m.ins.length c3), (.slice A4 m.outs.length c4), .int .i64 m.count] 46)).alloc (Obj.cells #[.int .i64 b.pc, .int .i64 b.len, vb, .int .i64 b.fin, .int .i64 b.x, .int .i64 b.y, .int .i64 b.k] 25)).alloc (Obj.cells #[.int .i64 o.kind, .int .i64 o.x, .int .i64 o.y, .int .i64 o.k, .int .i64 o.at_] 58)).alloc (Obj.cells #[.slice none 0 0, .int .i64 0, .slice none 0 0, .int .i64 0, .bool false, .bool false, .int .i64 0, .slice none 0 0, .slice none 0 0, .int .i64 0] 46))).frozen? ⟨w.heap.size + 1, oo, none⟩ = false := (fz_alloc (fz_alloc (fz_new (w.alloc (Obj.cells #[(.slice (some ⟨g1, o1, none⟩) 4 c1), .int .i64 m.pc, (.slice (some ⟨g2, o2, none⟩) 64 c2), .int .i64 m.save, .bool m.lets, .bool m.waits, .int .i64 m.halt, (.slice A3 m.ins.length c3), (.slice A4 m.outs.length c4), .int .i64 m.count] 46)) #[.int .i64 b.pc, .int .i64 b.len, vb, .int .i64 b.fin, .int .i64 b.x, .int .i64 b.y, .int .i64 b.k] 25 (by first | rfl | (simp; done))) (by first | (simp; done) | (simp; omega)) (Obj.cells #[.int .i64 o.kind, .int .i64 o.x, .int .i64 o.y, .int .i64 o.k, .int .i64 o.at_] 58)) (by first | (simp; done) | (simp; omega)) (Obj.cells #[.slice none 0 0, .int .i64 0, .slice none 0 0, .int .i64 0, .bool false, .bool false, .int .i64 0, .slice none 0 0, .slice none 0 0, .int .i64 0] 46))
      have hBo_0 : Bx ((((w.alloc (Obj.cells #[(.slice (some ⟨g1, o1, none⟩) 4 c1), .int .i64 m.pc, (.slice (some ⟨g2, o2, none⟩) 64 c2), .int .i64 m.save, .bool m.lets, .bool m.waits, .int .i64 m.halt, (.slice A3 m.ins.length c3), (.slice A4 m.outs.length c4), .int .i64 m.count] 46)).alloc (Obj.cells #[.int .i64 b.pc, .int .i64 b.len, vb, .int .i64 b.fin, .int .i64 b.x, .int .i64 b.y, .int .i64 b.k] 25)).alloc (Obj.cells #[.int .i64 o.kind, .int .i64 o.x, .int .i64 o.y, .int .i64 o.k, .int .i64 o.at_] 58)).alloc (Obj.cells #[.slice none 0 0, .int .i64 0, .slice none 0 0, .int .i64 0, .bool false, .bool false, .int .i64 0, .slice none 0 0, .slice none 0 0, .int .i64 0] 46)) (w.heap.size + 1 + 1) [.int .i64 o.kind, .int .i64 o.x, .int .i64 o.y, .int .i64 o.k, .int .i64 o.at_] := (by have := (Bx.alloc (Bx.new ((w.alloc (Obj.cells #[(.slice (some ⟨g1, o1, none⟩) 4 c1), .int .i64 m.pc, (.slice (some ⟨g2, o2, none⟩) 64 c2), .int .i64 m.save, .bool m.lets, .bool m.waits, .int .i64 m.halt, (.slice A3 m.ins.length c3), (.slice A4 m.outs.length c4), .int .i64 m.count] 46)).alloc (Obj.cells #[.int .i64 b.pc, .int .i64 b.len, vb, .int .i64 b.fin, .int .i64 b.x, .int .i64 b.y, .int .i64 b.k] 25)) #[.int .i64 o.kind, .int .i64 o.x, .int .i64 o.y, .int .i64 o.k, .int .i64 o.at_] 58) (by simp) #[.slice none 0 0, .int .i64 0, .slice none 0 0, .int .i64 0, .bool false, .bool false, .int .i64 0, .slice none 0 0, .slice none 0 0, .int .i64 0] 46); simpa using this)
      have hFo_0 : ∀ oo, (((((w.alloc (Obj.cells #[(.slice (some ⟨g1, o1, none⟩) 4 c1), .int .i64 m.pc, (.slice (some ⟨g2, o2, none⟩) 64 c2), .int .i64 m.save, .bool m.lets, .bool m.waits, .int .i64 m.halt, (.slice A3 m.ins.length c3), (.slice A4 m.outs.length c4), .int .i64 m.count] 46)).alloc (Obj.cells #[.int .i64 b.pc, .int .i64 b.len, vb, .int .i64 b.fin, .int .i64 b.x, .int .i64 b.y, .int .i64 b.k] 25)).alloc (Obj.cells #[.int .i64 o.kind, .int .i64 o.x, .int .i64 o.y, .int .i64 o.k, .int .i64 o.at_] 58)).alloc (Obj.cells #[.slice none 0 0, .int .i64 0, .slice none 0 0, .int .i64 0, .bool false, .bool false, .int .i64 0, .slice none 0 0, .slice none 0 0, .int .i64 0] 46))).frozen? ⟨w.heap.size + 1 + 1, oo, none⟩ = false := (fz_alloc (fz_new ((w.alloc (Obj.cells #[(.slice (some ⟨g1, o1, none⟩) 4 c1), .int .i64 m.pc, (.slice (some ⟨g2, o2, none⟩) 64 c2), .int .i64 m.save, .bool m.lets, .bool m.waits, .int .i64 m.halt, (.slice A3 m.ins.length c3), (.slice A4 m.outs.length c4), .int .i64 m.count] 46)).alloc (Obj.cells #[.int .i64 b.pc, .int .i64 b.len, vb, .int .i64 b.fin, .int .i64 b.x, .int .i64 b.y, .int .i64 b.k] 25)) #[.int .i64 o.kind, .int .i64 o.x, .int .i64 o.y, .int .i64 o.k, .int .i64 o.at_] 58 (by first | rfl | (simp; done))) (by first | (simp; done) | (simp; omega)) (Obj.cells #[.slice none 0 0, .int .i64 0, .slice none 0 0, .int .i64 0, .bool false, .bool false, .int .i64 0, .slice none 0 0, .slice none 0 0, .int .i64 0] 46))
      have hBres_0 : Bx ((((w.alloc (Obj.cells #[(.slice (some ⟨g1, o1, none⟩) 4 c1), .int .i64 m.pc, (.slice (some ⟨g2, o2, none⟩) 64 c2), .int .i64 m.save, .bool m.lets, .bool m.waits, .int .i64 m.halt, (.slice A3 m.ins.length c3), (.slice A4 m.outs.length c4), .int .i64 m.count] 46)).alloc (Obj.cells #[.int .i64 b.pc, .int .i64 b.len, vb, .int .i64 b.fin, .int .i64 b.x, .int .i64 b.y, .int .i64 b.k] 25)).alloc (Obj.cells #[.int .i64 o.kind, .int .i64 o.x, .int .i64 o.y, .int .i64 o.k, .int .i64 o.at_] 58)).alloc (Obj.cells #[.slice none 0 0, .int .i64 0, .slice none 0 0, .int .i64 0, .bool false, .bool false, .int .i64 0, .slice none 0 0, .slice none 0 0, .int .i64 0] 46)) (w.heap.size + 1 + 1 + 1) [.slice none 0 0, .int .i64 0, .slice none 0 0, .int .i64 0, .bool false, .bool false, .int .i64 0, .slice none 0 0, .slice none 0 0, .int .i64 0] := (by have := (Bx.new (((w.alloc (Obj.cells #[(.slice (some ⟨g1, o1, none⟩) 4 c1), .int .i64 m.pc, (.slice (some ⟨g2, o2, none⟩) 64 c2), .int .i64 m.save, .bool m.lets, .bool m.waits, .int .i64 m.halt, (.slice A3 m.ins.length c3), (.slice A4 m.outs.length c4), .int .i64 m.count] 46)).alloc (Obj.cells #[.int .i64 b.pc, .int .i64 b.len, vb, .int .i64 b.fin, .int .i64 b.x, .int .i64 b.y, .int .i64 b.k] 25)).alloc (Obj.cells #[.int .i64 o.kind, .int .i64 o.x, .int .i64 o.y, .int .i64 o.k, .int .i64 o.at_] 58)) #[.slice none 0 0, .int .i64 0, .slice none 0 0, .int .i64 0, .bool false, .bool false, .int .i64 0, .slice none 0 0, .slice none 0 0, .int .i64 0] 46); simpa using this)
      have hFres_0 : ∀ oo, (((((w.alloc (Obj.cells #[(.slice (some ⟨g1, o1, none⟩) 4 c1), .int .i64 m.pc, (.slice (some ⟨g2, o2, none⟩) 64 c2), .int .i64 m.save, .bool m.lets, .bool m.waits, .int .i64 m.halt, (.slice A3 m.ins.length c3), (.slice A4 m.outs.length c4), .int .i64 m.count] 46)).alloc (Obj.cells #[.int .i64 b.pc, .int .i64 b.len, vb, .int .i64 b.fin, .int .i64 b.x, .int .i64 b.y, .int .i64 b.k] 25)).alloc (Obj.cells #[.int .i64 o.kind, .int .i64 o.x, .int .i64 o.y, .int .i64 o.k, .int .i64 o.at_] 58)).alloc (Obj.cells #[.slice none 0 0, .int .i64 0, .slice none 0 0, .int .i64 0, .bool false, .bool false, .int .i64 0, .slice none 0 0, .slice none 0 0, .int .i64 0] 46))).frozen? ⟨w.heap.size + 1 + 1 + 1, oo, none⟩ = false := (fz_new (((w.alloc (Obj.cells #[(.slice (some ⟨g1, o1, none⟩) 4 c1), .int .i64 m.pc, (.slice (some ⟨g2, o2, none⟩) 64 c2), .int .i64 m.save, .bool m.lets, .bool m.waits, .int .i64 m.halt, (.slice A3 m.ins.length c3), (.slice A4 m.outs.length c4), .int .i64 m.count] 46)).alloc (Obj.cells #[.int .i64 b.pc, .int .i64 b.len, vb, .int .i64 b.fin, .int .i64 b.x, .int .i64 b.y, .int .i64 b.k] 25)).alloc (Obj.cells #[.int .i64 o.kind, .int .i64 o.x, .int .i64 o.y, .int .i64 o.k, .int .i64 o.at_] 58)) #[.slice none 0 0, .int .i64 0, .slice none 0 0, .int .i64 0, .bool false, .bool false, .int .i64 0, .slice none 0 0, .slice none 0 0, .int .i64 0] 46 (by first | rfl | (simp; done)))
      generalize ((((w.alloc (Obj.cells #[(.slice (some ⟨g1, o1, none⟩) 4 c1), .int .i64 m.pc, (.slice (some ⟨g2, o2, none⟩) 64 c2), .int .i64 m.save, .bool m.lets, .bool m.waits, .int .i64 m.halt, (.slice A3 m.ins.length c3), (.slice A4 m.outs.length c4), .int .i64 m.count] 46)).alloc (Obj.cells #[.int .i64 b.pc, .int .i64 b.len, vb, .int .i64 b.fin, .int .i64 b.x, .int .i64 b.y, .int .i64 b.k] 25)).alloc (Obj.cells #[.int .i64 o.kind, .int .i64 o.x, .int .i64 o.y, .int .i64 o.k, .int .i64 o.at_] 58)).alloc (Obj.cells #[.slice none 0 0, .int .i64 0, .slice none 0 0, .int .i64 0, .bool false, .bool false, .int .i64 0, .slice none 0 0, .slice none 0 0, .int .i64 0] 46)) = w0 at *
      have ht0 : Turn (mfoot g1 g2 (.slice A4 m.outs.length c4)) w w0 := Turn.of_ext he0 _
      have hM0 : Mach 3 lo ((w.heap.size) :: (w.heap.size + 1) :: (w.heap.size + 1 + 1) :: (w.heap.size + 1 + 1 + 1) :: X) w0 g1 o1 c1 g2 o2 c2 (.slice A3 m.ins.length c3) (.slice A4 m.outs.length c4) m := hM.addXs he0 [w.heap.size, w.heap.size + 1, w.heap.size + 1 + 1, w.heap.size + 1 + 1 + 1] (by intro b hb; simp at hb; omega)
      have yg1 : g1 < w0.heap.size := by omega
      have yg2 : g2 < w0.heap.size := by omega
      have q1 : decide (0 < m.ins.length) = false := decide_eq_false (by omega)
      have hnil : m.ins = [] := List.eq_nil_of_length_eq_zero (by omega)
      have HN := hide (show (m.ins[0]?).getD 0 = 0 by rw [hnil]; rfl)
      have HE := hide (show ({ m with ins := m.ins.drop 1 } : MchMach) = m by cases m; simp only at hnil; subst hnil; rfl)
      clear hnil
      have ym : w.heap.size < w0.heap.size := by omega
      have xm0 := hBm_0 0 _ rfl
      have xm1 := hBm_0 1 _ rfl
      have xm2 := hBm_0 2 _ rfl
      have xm3 := hBm_0 3 _ rfl
      have xm4 := hBm_0 4 _ rfl
      have xm5 := hBm_0 5 _ rfl
      have xm6 := hBm_0 6 _ rfl
      have xm7 := hBm_0 7 _ rfl
      have xm8 := hBm_0 8 _ rfl
      have xm9 := hBm_0 9 _ rfl
      have fm := hFm_0
      have yb : w.heap.size + 1 < w0.heap.size := by omega
      have xb0 := hBb_0 0 _ rfl
      have xb1 := hBb_0 1 _ rfl
      have xb2 := hBb_0 2 _ rfl
      have xb3 := hBb_0 3 _ rfl
      have xb4 := hBb_0 4 _ rfl
      have xb5 := hBb_0 5 _ rfl
      have xb6 := hBb_0 6 _ rfl
      have fb := hFb_0
      have yo : w.heap.size + 1 + 1 < w0.heap.size := by omega
      have xo0 := hBo_0 0 _ rfl
      have xo1 := hBo_0 1 _ rfl
      have xo2 := hBo_0 2 _ rfl
      have xo3 := hBo_0 3 _ rfl
      have xo4 := hBo_0 4 _ rfl
      have fo := hFo_0
      have yres : w.heap.size + 1 + 1 + 1 < w0.heap.size := by omega
      have xres0 := hBres_0 0 _ rfl
      have xres1 := hBres_0 1 _ rfl
      have xres2 := hBres_0 2 _ rfl
      have xres3 := hBres_0 3 _ rfl
      have xres4 := hBres_0 4 _ rfl
      have xres5 := hBres_0 5 _ rfl
      have xres6 := hBres_0 6 _ rfl
      have xres7 := hBres_0 7 _ rfl
      have xres8 := hBres_0 8 _ rfl
      have xres9 := hBres_0 9 _ rfl
      have fres := hFres_0
      go_upto_region 10 with fail
      clear xm0 xm1 xm2 xm3 xm4 xm5 xm6 xm7 xm8 xm9 ym
      clear fm
      clear xb0 xb1 xb2 xb3 xb4 xb5 xb6 yb
      clear fb
      clear xo0 xo1 xo2 xo3 xo4 yo
      clear fo
      clear xres0 xres1 xres2 xres3 xres4 xres5 xres6 xres7 xres8 xres9 yres
      clear fres
      have hM1 := hM0
      have ym : w.heap.size < w0.heap.size := by omega
      have xm0 := hBm_0 0 _ rfl
      have xm1 := hBm_0 1 _ rfl
      have xm2 := hBm_0 2 _ rfl
      have xm3 := hBm_0 3 _ rfl
      have xm4 := hBm_0 4 _ rfl
      have xm5 := hBm_0 5 _ rfl
      have xm6 := hBm_0 6 _ rfl
      have xm7 := hBm_0 7 _ rfl
      have xm8 := hBm_0 8 _ rfl
      have xm9 := hBm_0 9 _ rfl
      have HW := hide (show (rEvent b m o (q : Int) y) = (m, 0, false) by rw [HV.out, HN.out, HE.out])
      have yres : w.heap.size + 1 + 1 + 1 < w0.heap.size := by omega
      have xres0 := hBres_0 0 _ rfl
      have xres1 := hBres_0 1 _ rfl
      have xres2 := hBres_0 2 _ rfl
      have xres3 := hBres_0 3 _ rfl
      have xres4 := hBres_0 4 _ rfl
      have xres5 := hBres_0 5 _ rfl
      have xres6 := hBres_0 6 _ rfl
      have xres7 := hBres_0 7 _ rfl
      have xres8 := hBres_0 8 _ rfl
      have xres9 := hBres_0 9 _ rfl
      have fres := hFres_0
      go_wp2
      refine bodyPost_ret (v := .tuple #[.agg #[(.slice (some ⟨g1, o1, none⟩) 4 c1), .int .i64 m.pc, (.slice (some ⟨g2, o2, none⟩) 64 c2), .int .i64 m.save, .bool m.lets, .bool m.waits, .int .i64 m.halt, (.slice A3 m.ins.length c3), (.slice A4 m.outs.length c4), .int .i64 m.count], .int .i64 0, .bool false]) (by simp [results, Try.results56, go_sem, rLeave, MchMach.setM, xres0, xres1, xres2, xres3, xres4, xres5, xres6, xres7, xres8, xres9]) rfl ⟨_, _, by rw [HW.out]; try rfl, by rw [HW.out]; exact Mach.dropX (Mach.dropX (Mach.dropX (Mach.dropX (Mach.hold hM1)))), Turn.hold ht0, fun q hq => .inl hq⟩
  have q6 : (o.kind == 6) = false := by simp [h6]
  have h45 : o.kind = 4 ∨ o.kind = 5 := by omega
  clear hkd
  by_cases h64 : 64 ≤ q
  · 
    have HV := hide (show (rEvent b m o (q : Int) y) = ((rLeave b m o.at_ 3), 0, true) by unfold rEvent; rw [if_neg h7, if_neg h6, if_pos (by omega)])
    have q1 : decide (64 ≤ (q : Int)) = true := decide_eq_true (by omega)
    clear h7 h6
    go_enter Try.func56, Try.ntmps56
    go_upto_region 1 with fail
    have he0 : Ext w ((((w.alloc (Obj.cells #[(.slice (some ⟨g1, o1, none⟩) 4 c1), .int .i64 m.pc, (.slice (some ⟨g2, o2, none⟩) 64 c2), .int .i64 m.save, .bool m.lets, .bool m.waits, .int .i64 m.halt, (.slice A3 m.ins.length c3), (.slice A4 m.outs.length c4), .int .i64 m.count] 46)).alloc (Obj.cells #[.int .i64 b.pc, .int .i64 b.len, vb, .int .i64 b.fin, .int .i64 b.x, .int .i64 b.y, .int .i64 b.k] 25)).alloc (Obj.cells #[.int .i64 o.kind, .int .i64 o.x, .int .i64 o.y, .int .i64 o.k, .int .i64 o.at_] 58)).alloc (Obj.cells #[.slice none 0 0, .int .i64 0, .slice none 0 0, .int .i64 0, .bool false, .bool false, .int .i64 0, .slice none 0 0, .slice none 0 0, .int .i64 0] 46)) := (Ext.auto)
    have hs0 : w.heap.size + 4 ≤ (((((w.alloc (Obj.cells #[(.slice (some ⟨g1, o1, none⟩) 4 c1), .int .i64 m.pc, (.slice (some ⟨g2, o2, none⟩) 64 c2), .int .i64 m.save, .bool m.lets, .bool m.waits, .int .i64 m.halt, (.slice A3 m.ins.length c3), (.slice A4 m.outs.length c4), .int .i64 m.count] 46)).alloc (Obj.cells #[.int .i64 b.pc, .int .i64 b.len, vb, .int .i64 b.fin, .int .i64 b.x, .int .i64 b.y, .int .i64 b.k] 25)).alloc (Obj.cells #[.int .i64 o.kind, .int .i64 o.x, .int .i64 o.y, .int .i64 o.k, .int .i64 o.at_] 58)).alloc (Obj.cells #[.slice none 0 0, .int .i64 0, .slice none 0 0, .int .i64 0, .bool false, .bool false, .int .i64 0, .slice none 0 0, .slice none 0 0, .int .i64 0] 46))).heap.size := by simp
    have hq0 := hide (show (((((w.alloc (Obj.cells #[(.slice (some ⟨g1, o1, none⟩) 4 c1), .int .i64 m.pc, (.slice (some ⟨g2, o2, none⟩) 64 c2), .int .i64 m.save, .bool m.lets, .bool m.waits, .int .i64 m.halt, (.slice A3 m.ins.length c3), (.slice A4 m.outs.length c4), .int .i64 m.count] 46)).alloc (Obj.cells #[.int .i64 b.pc, .int .i64 b.len, vb, .int .i64 b.fin, .int .i64 b.x, .int .i64 b.y, .int .i64 b.k] 25)).alloc (Obj.cells #[.int .i64 o.kind, .int .i64 o.x, .int .i64 o.y, .int .i64 o.k, .int .i64 o.at_] 58)).alloc (Obj.cells #[.slice none 0 0, .int .i64 0, .slice none 0 0, .int .i64 0, .bool false, .bool false, .int .i64 0, .slice none 0 0, .slice none 0 0, .int .i64 0] 46))).heap.size = w.heap.size + 4 by simp)
    have hBm_0 : Bx ((((w.alloc (Obj.cells #[(.slice (some ⟨g1, o1, none⟩) 4 c1), .int .i64 m.pc, (.slice (some ⟨g2, o2, none⟩) 64 c2), .int .i64 m.save, .bool m.lets, .bool m.waits, .int .i64 m.halt, (.slice A3 m.ins.length c3), (.slice A4 m.outs.length c4), .int .i64 m.count] 46)).alloc (Obj.cells #[.int .i64 b.pc, .int .i64 b.len, vb, .int .i64 b.fin, .int .i64 b.x, .int .i64 b.y, .int .i64 b.k] 25)).alloc (Obj.cells #[.int .i64 o.kind, .int .i64 o.x, .int .i64 o.y, .int .i64 o.k, .int .i64 o.at_] 58)).alloc (Obj.cells #[.slice none 0 0, .int .i64 0, .slice none 0 0, .int .i64 0, .bool false, .bool false, .int .i64 0, .slice none 0 0, .slice none 0 0, .int .i64 0] 46)) (w.heap.size) [(.slice (some ⟨g1, o1, none⟩) 4 c1), .int .i64 m.pc, (.slice (some ⟨g2, o2, none⟩) 64 c2), .int .i64 m.save, .bool m.lets, .bool m.waits, .int .i64 m.halt, (.slice A3 m.ins.length c3), (.slice A4 m.outs.length c4), .int .i64 m.count] := (by have := (Bx.alloc (Bx.alloc (Bx.alloc (Bx.new w #[(.slice (some ⟨g1, o1, none⟩) 4 c1), .int .i64 m.pc, (.slice (some ⟨g2, o2, none⟩) 64 c2), .int .i64 m.save, .bool m.lets, .bool m.waits, .int .i64 m.halt, (.slice A3 m.ins.length c3), (.slice A4 m.outs.length c4), .int .i64 m.count] 46) (by simp) #[.int .i64 b.pc, .int .i64 b.len, vb, .int .i64 b.fin, .int .i64 b.x, .int .i64 b.y, .int .i64 b.k] 25) (by first | (simp; done) | (simp; omega)) #[.int .i64 o.kind, .int .i64 o.x, .int .i64 o.y, .int .i64 o.k, .int .i64 o.at_] 58) (by first | (simp; done) | (simp; omega)) #[.slice none 0 0, .int .i64 0, .slice none 0 0, .int .i64 0, .bool false, .bool false, .int .i64 0, .slice none 0 0, .slice none 0 0, .int .i64 0] 46); simpa using this)
    have hFm_0 : ∀ oo, (((((w.alloc (Obj.cells #[(.slice (some ⟨g1, o1, none⟩) 4 c1), .int .i64 m.pc, (.slice (some ⟨g2, o2, none⟩) 64 c2), .int .i64 m.save, .bool m.lets, .bool m.waits, .int .i64 m.halt, (.slice A3 m.ins.length c3), (.slice A4 m.outs.length c4), .int .i64 m.count] 46)).alloc (Obj.cells #[.int .i64 b.pc, .int .i64 b.len, vb, .int .i64 b.fin, .int .i64 b.x, .int .i64 b.y, .int .i64 b.k] 25)).alloc (Obj.cells #[.int .i64 o.kind, .int .i64 o.x, .int .i64 o.y, .int .i64 o.k, .int .i64 o.at_] 58)).alloc (Obj.cells #[.slice none 0 0, .int .i64 0, .slice none 0 0, .int .i64 0, .bool false, .bool false, .int .i64 0, .slice none 0 0, .slice none 0 0, .int .i64 0] 46))).frozen? ⟨w.heap.size, oo, none⟩ = false := (fz_alloc (fz_alloc (fz_alloc (fz_new w #[(.slice (some ⟨g1, o1, none⟩) 4 c1), .int .i64 m.pc, (.slice (some ⟨g2, o2, none⟩) 64 c2), .int .i64 m.save, .bool m.lets, .bool m.waits, .int .i64 m.halt, (.slice A3 m.ins.length c3), (.slice A4 m.outs.length c4), .int .i64 m.count] 46 (by first | rfl | (simp; done))) (by first | (simp; done) | (simp; omega)) (Obj.cells #[.int .i64 b.pc, .int .i64 b.len, vb, .int .i64 b.fin, .int .i64 b.x, .int .i64 b.y, .int .i64 b.k] 25)) (by first | (simp; done) | (simp; omega)) (Obj.cells #[.int .i64 o.kind, .int .i64 o.x, .int .i64 o.y, .int .i64 o.k, .int .i64 o.at_] 58)) (by first | (simp; done) | (simp; omega)) (Obj.cells #[.slice none 0 0, .int .i64 0, .slice none 0 0, .int .i64 0, .bool false, .bool false, .int .i64 0, .slice none 0 0, .slice none 0 0, .int .i64 0] 46))
    have hBb_0 : Bx ((((w.alloc (Obj.cells #[(.slice (some ⟨g1, o1, none⟩) 4 c1), .int .i64 m.pc, (.slice (some ⟨g2, o2, none⟩) 64 c2), .int .i64 m.save, .bool m.lets, .bool m.waits, .int .i64 m.halt, (.slice A3 m.ins.length c3), (.slice A4 m.outs.length c4), .int .i64 m.count] 46)).alloc (Obj.cells #[.int .i64 b.pc, .int .i64 b.len, vb, .int .i64 b.fin, .int .i64 b.x, .int .i64 b.y, .int .i64 b.k] 25)).alloc (Obj.cells #[.int .i64 o.kind, .int .i64 o.x, .int .i64 o.y, .int .i64 o.k, .int .i64 o.at_] 58)).alloc (Obj.cells #[.slice none 0 0, .int .i64 0, .slice none 0 0, .int .i64 0, .bool false, .bool false, .int .i64 0, .slice none 0 0, .slice none 0 0, .int .i64 0] 46)) (w.heap.size + 1) [.int .i64 b.pc, .int .i64 b.len, vb, .int .i64 b.fin, .int .i64 b.x, .int .i64 b.y, .int .i64 b.k] := (by have := (Bx.alloc (Bx.alloc (Bx.new (w.alloc (Obj.cells #[(.slice (some ⟨g1, o1, none⟩) 4 c1), .int .i64 m.pc, (.slice (some ⟨g2, o2, none⟩) 64 c2), .int .i64 m.save, .bool m.lets, .bool m.waits, .int .i64 m.halt, (.slice A3 m.ins.length c3), (.slice A4 m.outs.length c4), .int .i64 m.count] 46)) #[.int .i64 b.pc, .int .i64 b.len, vb, .int .i64 b.fin, .int .i64 b.x, .int .i64 b.y, .int .i64 b.k] 25) (by simp) #[.int .i64 o.kind, .int .i64 o.x, .int .i64 o.y, .int .i64 o.k, .int .i64 o.at_] 58) (by first | (simp; done) | (simp; omega)) #[.slice none 0 0, .int .i64 0, .slice none 0 0, .int .i64 0, .bool false, .bool false, .int .i64 0, .slice none 0 0, .slice none 0 0, .int .i64 0] 46); simpa using this)
    have hFb_0 : ∀ oo, (((((w.alloc (Obj.cells #[(.slice (some ⟨g1, o1, none⟩) 4 c1), .int .i64 m.pc, (.slice (some ⟨g2, o2, none⟩) 64 c2), .int .i64 m.save, .bool m.lets, .bool m.waits, .int .i64 m.halt, (.slice A3 m.ins.length c3), (.slice A4 m.outs.length c4), .int .i64 m.count] 46)).alloc (Obj.cells #[.int .i64 b.pc, .int .i64 b.len, vb, .int .i64 b.fin, .int .i64 b.x, .int .i64 b.y, .int .i64 b.k] 25)).alloc (Obj.cells #[.int .i64 o.kind, .int .i64 o.x, .int .i64 o.y, .int .i64 o.k, .int .i64 o.at_] 58)).alloc (Obj.cells #[.slice none 0 0, .int .i64 0, .slice none 0 0, .int .i64 0, .bool false, .bool false, .int .i64 0, .slice none 0 0, .slice none 0 0, .int .i64 0] 46))).frozen? ⟨w.heap.size + 1, oo, none⟩ = false := (fz_alloc (fz_alloc (fz_new (w.alloc (Obj.cells #[(.slice (some ⟨g1, o1, none⟩) 4 c1), .int .i64 m.pc, (.slice (some ⟨g2, o2, none⟩) 64 c2), .int .i64 m.save, .bool m.lets, .bool m.waits, .int .i64 m.halt, (.slice A3 m.ins.length c3), (.slice A4 m.outs.length c4), .int .i64 m.count] 46)) #[.int .i64 b.pc, .int .i64 b.len, vb, .int .i64 b.fin, .int .i64 b.x, .int .i64 b.y, .int .i64 b.k] 25 (by first | rfl | (simp; done))) (by first | (simp; done) | (simp; omega)) (Obj.cells #[.int .i64 o.kind, .int .i64 o.x, .int .i64 o.y, .int .i64 o.k, .int .i64 o.at_] 58)) (by first | (simp; done) | (simp; omega)) (Obj.cells #[.slice none 0 0, .int .i64 0, .slice none 0 0, .int .i64 0, .bool false, .bool false, .int .i64 0, .slice none 0 0, .slice none 0 0, .int .i64 0] 46))
    have hBo_0 : Bx ((((w.alloc (Obj.cells #[(.slice (some ⟨g1, o1, none⟩) 4 c1), .int .i64 m.pc, (.slice (some ⟨g2, o2, none⟩) 64 c2), .int .i64 m.save, .bool m.lets, .bool m.waits, .int .i64 m.halt, (.slice A3 m.ins.length c3), (.slice A4 m.outs.length c4), .int .i64 m.count] 46)).alloc (Obj.cells #[.int .i64 b.pc, .int .i64 b.len, vb, .int .i64 b.fin, .int .i64 b.x, .int .i64 b.y, .int .i64 b.k] 25)).alloc (Obj.cells #[.int .i64 o.kind, .int .i64 o.x, .int .i64 o.y, .int .i64 o.k, .int .i64 o.at_] 58)).alloc (Obj.cells #[.slice none 0 0, .int .i64 0, .slice none 0 0, .int .i64 0, .bool false, .bool false, .int .i64 0, .slice none 0 0, .slice none 0 0, .int .i64 0] 46)) (w.heap.size + 1 + 1) [.int .i64 o.kind, .int .i64 o.x, .int .i64 o.y, .int .i64 o.k, .int .i64 o.at_] := (by have := (Bx.alloc (Bx.new ((w.alloc (Obj.cells #[(.slice (some ⟨g1, o1, none⟩) 4 c1), .int .i64 m.pc, (.slice (some ⟨g2, o2, none⟩) 64 c2), .int .i64 m.save, .bool m.lets, .bool m.waits, .int .i64 m.halt, (.slice A3 m.ins.length c3), (.slice A4 m.outs.length c4), .int .i64 m.count] 46)).alloc (Obj.cells #[.int .i64 b.pc, .int .i64 b.len, vb, .int .i64 b.fin, .int .i64 b.x, .int .i64 b.y, .int .i64 b.k] 25)) #[.int .i64 o.kind, .int .i64 o.x, .int .i64 o.y, .int .i64 o.k, .int .i64 o.at_] 58) (by simp) #[.slice none 0 0, .int .i64 0, .slice none 0 0, .int .i64 0, .bool false, .bool false, .int .i64 0, .slice none 0 0, .slice none 0 0, .int .i64 0] 46); simpa using this)
    have hFo_0 : ∀ oo, (((((w.alloc (Obj.cells #[(.slice (some ⟨g1, o1, none⟩) 4 c1), .int .i64 m.pc, (.slice (some ⟨g2, o2, none⟩) 64 c2), .int .i64 m.save, .bool m.lets, .bool m.waits, .int .i64 m.halt, (.slice A3 m.ins.length c3), (.slice A4 m.outs.length c4), .int .i64 m.count] 46)).alloc (Obj.cells #[.int .i64 b.pc, .int .i64 b.len, vb, .int .i64 b.fin, .int .i64 b.x, .int .i64 b.y, .int .i64 b.k] 25)).alloc (Obj.cells #[.int .i64 o.kind, .int .i64 o.x, .int .i64 o.y, .int .i64 o.k, .int .i64 o.at_] 58)).alloc (Obj.cells #[.slice none 0 0, .int .i64 0, .slice none 0 0, .int .i64 0, .bool false, .bool false, .int .i64 0, .slice none 0 0, .slice none 0 0, .int .i64 0] 46))).frozen? ⟨w.heap.size + 1 + 1, oo, none⟩ = false := (fz_alloc (fz_new ((w.alloc (Obj.cells #[(.slice (some ⟨g1, o1, none⟩) 4 c1), .int .i64 m.pc, (.slice (some ⟨g2, o2, none⟩) 64 c2), .int .i64 m.save, .bool m.lets, .bool m.waits, .int .i64 m.halt, (.slice A3 m.ins.length c3), (.slice A4 m.outs.length c4), .int .i64 m.count] 46)).alloc (Obj.cells #[.int .i64 b.pc, .int .i64 b.len, vb, .int .i64 b.fin, .int .i64 b.x, .int .i64 b.y, .int .i64 b.k] 25)) #[.int .i64 o.kind, .int .i64 o.x, .int .i64 o.y, .int .i64 o.k, .int .i64 o.at_] 58 (by first | rfl | (simp; done))) (by first | (simp; done) | (simp; omega)) (Obj.cells #[.slice none 0 0, .int .i64 0, .slice none 0 0, .int .i64 0, .bool false, .bool false, .int .i64 0, .slice none 0 0, .slice none 0 0, .int .i64 0] 46))
    have hBres_0 : Bx ((((w.alloc (Obj.cells #[(.slice (some ⟨g1, o1, none⟩) 4 c1), .int .i64 m.pc, (.slice (some ⟨g2, o2, none⟩) 64 c2), .int .i64 m.save, .bool m.lets, .bool m.waits, .int .i64 m.halt, (.slice A3 m.ins.length c3), (.slice A4 m.outs.length c4), .int .i64 m.count] 46)).alloc (Obj.cells #[.int .i64 b.pc, .int .i64 b.len, vb, .int .i64 b.fin, .int .i64 b.x, .int .i64 b.y, .int .i64 b.k] 25)).alloc (Obj.cells #[.int .i64 o.kind, .int .i64 o.x, .int .i64 o.y, .int .i64 o.k, .int .i64 o.at_] 58)).alloc (Obj.cells #[.slice none 0 0, .int .i64 0, .slice none 0 0, .int .i64 0, .bool false, .bool false, .int .i64 0, .slice none 0 0, .slice none 0 0, .int .i64 0] 46)) (w.heap.size + 1 + 1 + 1) [.slice none 0 0, .int .i64 0, .slice none 0 0, .int .i64 0, .bool false, .bool false, .int .i64 0, .slice none 0 0, .slice none 0 0, .int .i64 0] := (by have := (Bx.new (((w.alloc (Obj.cells #[(.slice (some ⟨g1, o1, none⟩) 4 c1), .int .i64 m.pc, (.slice (some ⟨g2, o2, none⟩) 64 c2), .int .i64 m.save, .bool m.lets, .bool m.waits, .int .i64 m.halt, (.slice A3 m.ins.length c3), (.slice A4 m.outs.length c4), .int .i64 m.count] 46)).alloc (Obj.cells #[.int .i64 b.pc, .int .i64 b.len, vb, .int .i64 b.fin, .int .i64 b.x, .int .i64 b.y, .int .i64 b.k] 25)).alloc (Obj.cells #[.int .i64 o.kind, .int .i64 o.x, .int .i64 o.y, .int .i64 o.k, .int .i64 o.at_] 58)) #[.slice none 0 0, .int .i64 0, .slice none 0 0, .int .i64 0, .bool false, .bool false, .int .i64 0, .slice none 0 0, .slice none 0 0, .int .i64 0] 46); simpa using this)
    have hFres_0 : ∀ oo, (((((w.alloc (Obj.cells #[(.slice (some ⟨g1, o1, none⟩) 4 c1), .int .i64 m.pc, (.slice (some ⟨g2, o2, none⟩) 64 c2), .int .i64 m.save, .bool m.lets, .bool m.waits, .int .i64 m.halt, (.slice A3 m.ins.length c3), (.slice A4 m.outs.length c4), .int .i64 m.count] 46)).alloc (Obj.cells #[.int .i64 b.pc, .int .i64 b.len, vb, .int .i64 b.fin, .int .i64 b.x, .int .i64 b.y, .int .i64 b.k] 25)).alloc (Obj.cells #[.int .i64 o.kind, .int .i64 o.x, .int .i64 o.y, .int .i64 o.k, .int .i64 o.at_] 58)).alloc (Obj.cells #[.slice none 0 0, .int .i64 0, .slice none 0 0, .int .i64 0, .bool false, .bool false, .int .i64 0, .slice none 0 0, .slice none 0 0, .int .i64 0] 46))).frozen? ⟨w.heap.size + 1 + 1 + 1, oo, none⟩ = false := (fz_new (((w.alloc (Obj.cells #[(.slice (some ⟨g1, o1, none⟩) 4 c1), .int .i64 m.pc, (.slice (some ⟨g2, o2, none⟩) 64 c2), .int .i64 m.save, .bool m.lets, .bool m.waits, .int .i64 m.halt, (.slice A3 m.ins.length c3), (.slice A4 m.outs.length c4), .int .i64 m.count] 46)).alloc (Obj.cells #[.int .i64 b.pc, .int .i64 b.len, vb, .int .i64 b.fin, .int .i64 b.x, .int .i64 b.y, .int .i64 b.k] 25)).alloc (Obj.cells #[.int .i64 o.kind, .int .i64 o.x, .int .i64 o.y, .int .i64 o.k, .int .i64 o.at_] 58)) #[.slice none 0 0, .int .i64 0, .slice none 0 0, .int .i64 0, .bool false, .bool false, .int .i64 0, .slice none 0 0, .slice none 0 0, .int .i64 0] 46 (by first | rfl | (simp; done)))
    generalize ((((w.alloc (Obj.cells #[(.slice (some ⟨g1, o1, none⟩) 4 c1), .int .i64 m.pc, (.slice (some ⟨g2, o2, none⟩) 64 c2), .int .i64 m.save, .bool m.lets, .bool m.waits, .int .i64 m.halt, (.slice A3 m.ins.length c3), (.slice A4 m.outs.length c4), .int .i64 m.count] 46)).alloc (Obj.cells #[.int .i64 b.pc, .int .i64 b.len, vb, .int .i64 b.fin, .int .i64 b.x, .int .i64 b.y, .int .i64 b.k] 25)).alloc (Obj.cells #[.int .i64 o.kind, .int .i64 o.x, .int .i64 o.y, .int .i64 o.k, .int .i64 o.at_] 58)).alloc (Obj.cells #[.slice none 0 0, .int .i64 0, .slice none 0 0, .int .i64 0, .bool false, .bool false, .int .i64 0, .slice none 0 0, .slice none 0 0, .int .i64 0] 46)) = w0 at *
    have ht0 : Turn (mfoot g1 g2 (.slice A4 m.outs.length c4)) w w0 := Turn.of_ext he0 _
    have hM0 : Mach 3 lo ((w.heap.size) :: (w.heap.size + 1) :: (w.heap.size + 1 + 1) :: (w.heap.size + 1 + 1 + 1) :: X) w0 g1 o1 c1 g2 o2 c2 (.slice A3 m.ins.length c3) (.slice A4 m.outs.length c4) m := hM.addXs he0 [w.heap.size, w.heap.size + 1, w.heap.size + 1 + 1, w.heap.size + 1 + 1 + 1] (by intro b hb; simp at hb; omega)
    have yg1 : g1 < w0.heap.size := by omega
    have yg2 : g2 < w0.heap.size := by omega
    have ym : w.heap.size < w0.heap.size := by omega
    have xm0 := hBm_0 0 _ rfl
    have xm1 := hBm_0 1 _ rfl
    have xm2 := hBm_0 2 _ rfl
    have xm3 := hBm_0 3 _ rfl
    have xm4 := hBm_0 4 _ rfl
    have xm5 := hBm_0 5 _ rfl
    have xm6 := hBm_0 6 _ rfl
    have xm7 := hBm_0 7 _ rfl
    have xm8 := hBm_0 8 _ rfl
    have xm9 := hBm_0 9 _ rfl
    have fm := hFm_0
    have yb : w.heap.size + 1 < w0.heap.size := by omega
    have xb0 := hBb_0 0 _ rfl
    have xb1 := hBb_0 1 _ rfl
    have xb2 := hBb_0 2 _ rfl
    have xb3 := hBb_0 3 _ rfl
    have xb4 := hBb_0 4 _ rfl
    have xb5 := hBb_0 5 _ rfl
    have xb6 := hBb_0 6 _ rfl
    have fb := hFb_0
    have yo : w.heap.size + 1 + 1 < w0.heap.size := by omega
    have xo0 := hBo_0 0 _ rfl
    have xo1 := hBo_0 1 _ rfl
    have xo2 := hBo_0 2 _ rfl
    have xo3 := hBo_0 3 _ rfl
    have xo4 := hBo_0 4 _ rfl
    have fo := hFo_0
    have yres : w.heap.size + 1 + 1 + 1 < w0.heap.size := by omega
    have xres0 := hBres_0 0 _ rfl
    have xres1 := hBres_0 1 _ rfl
    have xres2 := hBres_0 2 _ rfl
    have xres3 := hBres_0 3 _ rfl
    have xres4 := hBres_0 4 _ rfl
    have xres5 := hBres_0 5 _ rfl
    have xres6 := hBres_0 6 _ rfl
    have xres7 := hBres_0 7 _ rfl
    have xres8 := hBres_0 8 _ rfl
    have xres9 := hBres_0 9 _ rfl
    have fres := hFres_0
    go_wp2_with fail
    refine (l6Leave_any m b o.at_ 3 hb1 ⟨by omega, by omega⟩ hcc _ _ _ _ _ _ _ _ _ _ _ _ _ _).mono ?_
    rintro e w1 ⟨rfl, hy⟩
    clear xm0 xm1 xm2 xm3 xm4 xm5 xm6 xm7 xm8 xm9 ym
    clear fm
    clear xb0 xb1 xb2 xb3 xb4 xb5 xb6 yb
    clear fb
    clear xo0 xo1 xo2 xo3 xo4 yo
    clear fo
    clear xres0 xres1 xres2 xres3 xres4 xres5 xres6 xres7 xres8 xres9 yres
    clear fres
    have hs1 := hy.size
    try simp at hs1
    have ht1 : Turn (mfoot g1 g2 (.slice A4 m.outs.length c4)) w w1 := (Turn.hold ht0).call hy
    have hBres_1 : Bx w1 (w.heap.size + 1 + 1 + 1) [.slice none 0 0, .int .i64 0, .slice none 0 0, .int .i64 0, .bool false, .bool false, .int .i64 0, .slice none 0 0, .slice none 0 0, .int .i64 0] := hy.bx (Bx.hold hBres_0) (by first | omega | (simp; done) | (simp; omega))
    have hFres_1 : ∀ oo, w1.frozen? ⟨w.heap.size + 1 + 1 + 1, oo, none⟩ = false := fun oo => (hy.frozen (by first | omega | (simp; done) | (simp; omega))).trans ((fz_hold hFres_0) oo)
    try clear hBres_0 hFres_0
    have hM9 := (hM0.ext hy).same (m' := (rLeave b m o.at_ 3)) rfl rfl rfl rfl
    clear hy hM0
    have yres : w.heap.size + 1 + 1 + 1 < w1.heap.size := by omega
    have xres0 := hBres_1 0 _ rfl
    have xres1 := hBres_1 1 _ rfl
    have xres2 := hBres_1 2 _ rfl
    have xres3 := hBres_1 3 _ rfl
    have xres4 := hBres_1 4 _ rfl
    have xres5 := hBres_1 5 _ rfl
    have xres6 := hBres_1 6 _ rfl
    have xres7 := hBres_1 7 _ rfl
    have xres8 := hBres_1 8 _ rfl
    have xres9 := hBres_1 9 _ rfl
    have fres := hFres_1
    go_wp2
    refine bodyPost_ret (v := .tuple #[.agg #[(.slice (some ⟨g1, o1, none⟩) 4 c1), .int .i64 ((rLeave b m o.at_ 3).pc), (.slice (some ⟨g2, o2, none⟩) 64 c2), .int .i64 ((rLeave b m o.at_ 3).save), .bool (rLeave b m o.at_ 3).lets, .bool (rLeave b m o.at_ 3).waits, .int .i64 ((rLeave b m o.at_ 3).halt), (.slice A3 m.ins.length c3), (.slice A4 m.outs.length c4), .int .i64 ((rLeave b m o.at_ 3).count)], .int .i64 0, .bool true]) (by simp [results, Try.results56, go_sem, rLeave, MchMach.setM, xres0, xres1, xres2, xres3, xres4, xres5, xres6, xres7, xres8, xres9]) rfl ⟨_, _, by rw [HV.out]; try rfl, by rw [HV.out]; exact Mach.dropX (Mach.dropX (Mach.dropX (Mach.dropX (Mach.hold hM9)))), Turn.hold ht1, fun q hq => .inl hq⟩
  have q1 : decide (64 ≤ (q : Int)) = false := decide_eq_false (by omega)
  have hQ6 : q < 64 := by omega
  have z4 : (0 : Int) ≤ (q : Int) := by omega
  have z5 : (q : Int) < 64 := by omega
  by_cases h4 : o.kind = 4
  · 
    have HV := hide (show (rEvent b m o (q : Int) y) = (m, m.word (q : Int), false) by unfold rEvent; rw [if_neg h7, if_neg h6, if_neg (by omega), if_pos h4])
    have q4 : (o.kind == 4) = true := by simp [h4]
    clear h7 h6 h45 h4 h64
    go_enter Try.func56, Try.ntmps56
    go_upto_region 1 with fail
    have he0 : Ext w ((((w.alloc (Obj.cells #[(.slice (some ⟨g1, o1, none⟩) 4 c1), .int .i64 m.pc, (.slice (some ⟨g2, o2, none⟩) 64 c2), .int .i64 m.save, .bool m.lets, .bool m.waits, .int .i64 m.halt, (.slice A3 m.ins.length c3), (.slice A4 m.outs.length c4), .int .i64 m.count] 46)).alloc (Obj.cells #[.int .i64 b.pc, .int .i64 b.len, vb, .int .i64 b.fin, .int .i64 b.x, .int .i64 b.y, .int .i64 b.k] 25)).alloc (Obj.cells #[.int .i64 o.kind, .int .i64 o.x, .int .i64 o.y, .int .i64 o.k, .int .i64 o.at_] 58)).alloc (Obj.cells #[.slice none 0 0, .int .i64 0, .slice none 0 0, .int .i64 0, .bool false, .bool false, .int .i64 0, .slice none 0 0, .slice none 0 0, .int .i64 0] 46)) := (Ext.auto)
    have hs0 : w.heap.size + 4 ≤ (((((w.alloc (Obj.cells #[(.slice (some ⟨g1, o1, none⟩) 4 c1), .int .i64 m.pc, (.slice (some ⟨g2, o2, none⟩) 64 c2), .int .i64 m.save, .bool m.lets, .bool m.waits, .int .i64 m.halt, (.slice A3 m.ins.length c3), (.slice A4 m.outs.length c4), .int .i64 m.count] 46)).alloc (Obj.cells #[.int .i64 b.pc, .int .i64 b.len, vb, .int .i64 b.fin, .int .i64 b.x, .int .i64 b.y, .int .i64 b.k] 25)).alloc (Obj.cells #[.int .i64 o.kind, .int .i64 o.x, .int .i64 o.y, .int .i64 o.k, .int .i64 o.at_] 58)).alloc (Obj.cells #[.slice none 0 0, .int .i64 0, .slice none 0 0, .int .i64 0, .bool false, .bool false, .int .i64 0, .slice none 0 0, .slice none 0 0, .int .i64 0] 46))).heap.size := by simp
    have hq0 := hide (show (((((w.alloc (Obj.cells #[(.slice (some ⟨g1, o1, none⟩) 4 c1), .int .i64 m.pc, (.slice (some ⟨g2, o2, none⟩) 64 c2), .int .i64 m.save, .bool m.lets, .bool m.waits, .int .i64 m.halt, (.slice A3 m.ins.length c3), (.slice A4 m.outs.length c4), .int .i64 m.count] 46)).alloc (Obj.cells #[.int .i64 b.pc, .int .i64 b.len, vb, .int .i64 b.fin, .int .i64 b.x, .int .i64 b.y, .int .i64 b.k] 25)).alloc (Obj.cells #[.int .i64 o.kind, .int .i64 o.x, .int .i64 o.y, .int .i64 o.k, .int .i64 o.at_] 58)).alloc (Obj.cells #[.slice none 0 0, .int .i64 0, .slice none 0 0, .int .i64 0, .bool false, .bool false, .int .i64 0, .slice none 0 0, .slice none 0 0, .int .i64 0] 46))).heap.size = w.heap.size + 4 by simp)
    have hBm_0 : Bx ((((w.alloc (Obj.cells #[(.slice (some ⟨g1, o1, none⟩) 4 c1), .int .i64 m.pc, (.slice (some ⟨g2, o2, none⟩) 64 c2), .int .i64 m.save, .bool m.lets, .bool m.waits, .int .i64 m.halt, (.slice A3 m.ins.length c3), (.slice A4 m.outs.length c4), .int .i64 m.count] 46)).alloc (Obj.cells #[.int .i64 b.pc, .int .i64 b.len, vb, .int .i64 b.fin, .int .i64 b.x, .int .i64 b.y, .int .i64 b.k] 25)).alloc (Obj.cells #[.int .i64 o.kind, .int .i64 o.x, .int .i64 o.y, .int .i64 o.k, .int .i64 o.at_] 58)).alloc (Obj.cells #[.slice none 0 0, .int .i64 0, .slice none 0 0, .int .i64 0, .bool false, .bool false, .int .i64 0, .slice none 0 0, .slice none 0 0, .int .i64 0] 46)) (w.heap.size) [(.slice (some ⟨g1, o1, none⟩) 4 c1), .int .i64 m.pc, (.slice (some ⟨g2, o2, none⟩) 64 c2), .int .i64 m.save, .bool m.lets, .bool m.waits, .int .i64 m.halt, (.slice A3 m.ins.length c3), (.slice A4 m.outs.length c4), .int .i64 m.count] := (by have := (Bx.alloc (Bx.alloc (Bx.alloc (Bx.new w #[(.slice (some ⟨g1, o1, none⟩) 4 c1), .int .i64 m.pc, (.slice (some ⟨g2, o2, none⟩) 64 c2), .int .i64 m.save, .bool m.lets, .bool m.waits, .int .i64 m.halt, (.slice A3 m.ins.length c3), (.slice A4 m.outs.length c4), .int .i64 m.count] 46) (by simp) #[.int .i64 b.pc, .int .i64 b.len, vb, .int .i64 b.fin, .int .i64 b.x, .int .i64 b.y, .int .i64 b.k] 25) (by first | (simp; done) | (simp; omega)) #[.int .i64 o.kind, .int .i64 o.x, .int .i64 o.y, .int .i64 o.k, .int .i64 o.at_] 58) (by first | (simp; done) | (simp; omega)) #[.slice none 0 0, .int .i64 0, .slice none 0 0, .int .i64 0, .bool false, .bool false, .int .i64 0, .slice none 0 0, .slice none 0 0, .int .i64 0] 46); simpa using this)
    have hFm_0 : ∀ oo, (((((w.alloc (Obj.cells #[(.slice (some ⟨g1, o1, none⟩) 4 c1), .int .i64 m.pc, (.slice (some ⟨g2, o2, none⟩) 64 c2), .int .i64 m.save, .bool m.lets, .bool m.waits, .int .i64 m.halt, (.slice A3 m.ins.length c3), (.slice A4 m.outs.length c4), .int .i64 m.count] 46)).alloc (Obj.cells #[.int .i64 b.pc, .int .i64 b.len, vb, .int .i64 b.fin, .int .i64 b.x, .int .i64 b.y, .int .i64 b.k] 25)).alloc (Obj.cells #[.int .i64 o.kind, .int .i64 o.x, .int .i64 o.y, .int .i64 o.k, .int .i64 o.at_] 58)).alloc (Obj.cells #[.slice none 0 0, .int .i64 0, .slice none 0 0, .int .i64 0, .bool false, .bool false, .int .i64 0, .slice none 0 0, .slice none 0 0, .int .i64 0] 46))).frozen? ⟨w.heap.size, oo, none⟩ = false := (fz_alloc (fz_alloc (fz_alloc (fz_new w #[(.slice (some ⟨g1, o1, none⟩) 4 c1), .int .i64 m.pc, (.slice (some ⟨g2, o2, none⟩) 64 c2), .int .i64 m.save, .bool m.lets, .bool m.waits, .int .i64 m.halt, (.slice A3 m.ins.length c3), (.slice A4 m.outs.length c4), .int .i64 m.count] 46 (by first | rfl | (simp; done))) (by first | (simp; done) | (simp; omega)) (Obj.cells #[.int .i64 b.pc, .int .i64 b.len, vb, .int .i64 b.fin, .int .i64 b.x, .int .i64 b.y, .int .i64 b.k] 25)) (by first | (simp; done) | (simp; omega)) (Obj.cells #[.int .i64 o.kind, .int .i64 o.x, .int .i64 o.y, .int .i64 o.k, .int .i64 o.at_] 58)) (by first | (simp; done) | (simp; omega)) (Obj.cells #[.slice none 0 0, .int .i64 0, .slice none 0 0, .int .i64 0, .bool false, .bool false, .int .i64 0, .slice none 0 0, .slice none 0 0, .int .i64 0] 46))
    have hBb_0 : Bx ((((w.alloc (Obj.cells #[(.slice (some ⟨g1, o1, none⟩) 4 c1), .int .i64 m.pc, (.slice (some ⟨g2, o2, none⟩) 64 c2), .int .i64 m.save, .bool m.lets, .bool m.waits, .int .i64 m.halt, (.slice A3 m.ins.length c3), (.slice A4 m.outs.length c4), .int .i64 m.count] 46)).alloc (Obj.cells #[.int .i64 b.pc, .int .i64 b.len, vb, .int .i64 b.fin, .int .i64 b.x, .int .i64 b.y, .int .i64 b.k] 25)).alloc (Obj.cells #[.int .i64 o.kind, .int .i64 o.x, .int .i64 o.y, .int .i64 o.k, .int .i64 o.at_] 58)).alloc (Obj.cells #[.slice none 0 0, .int .i64 0, .slice none 0 0, .int .i64 0, .bool false, .bool false, .int .i64 0, .slice none 0 0, .slice none 0 0, .int .i64 0] 46)) (w.heap.size + 1) [.int .i64 b.pc, .int .i64 b.len, vb, .int .i64 b.fin, .int .i64 b.x, .int .i64 b.y, .int .i64 b.k] := (by have := (Bx.alloc (Bx.alloc (Bx.new (w.alloc (Obj.cells #[(.slice (some ⟨g1, o1, none⟩) 4 c1), .int .i64 m.pc, (.slice (some ⟨g2, o2, none⟩) 64 c2), .int .i64 m.save, .bool m.lets, .bool m.waits, .int .i64 m.halt, (.slice A3 m.ins.length c3), (.slice A4 m.outs.length c4), .int .i64 m.count] 46)) #[.int .i64 b.pc, .int .i64 b.len, vb, .int .i64 b.fin, .int .i64 b.x, .int .i64 b.y, .int .i64 b.k] 25) (by simp) #[.int .i64 o.kind, .int .i64 o.x, .int .i64 o.y, .int .i64 o.k, .int .i64 o.at_] 58) (by first | (simp; done) | (simp; omega)) #[.slice none 0 0, .int .i64 0, .slice none 0 0, .int .i64 0, .bool false, .bool false, .int .i64 0, .slice none 0 0, .slice none 0 0, .int .i64 0] 46); simpa using this)
    have hFb_0 : ∀ oo, (((((w.alloc (Obj.cells #[(.slice (some ⟨g1, o1, none⟩) 4 c1), .int .i64 m.pc, (.slice (some ⟨g2, o2, none⟩) 64 c2), .int .i64 m.save, .bool m.lets, .bool m.waits, .int .i64 m.halt, (.slice A3 m.ins.length c3), (.slice A4 m.outs.length c4), .int .i64 m.count] 46)).alloc (Obj.cells #[.int .i64 b.pc, .int .i64 b.len, vb, .int .i64 b.fin, .int .i64 b.x, .int .i64 b.y, .int .i64 b.k] 25)).alloc (Obj.cells #[.int .i64 o.kind, .int .i64 o.x, .int .i64 o.y, .int .i64 o.k, .int .i64 o.at_] 58)).alloc (Obj.cells #[.slice none 0 0, .int .i64 0, .slice none 0 0, .int .i64 0, .bool false, .bool false, .int .i64 0, .slice none 0 0, .slice none 0 0, .int .i64 0] 46))).frozen? ⟨w.heap.size + 1, oo, none⟩ = false := (fz_alloc (fz_alloc (fz_new (w.alloc (Obj.cells #[(.slice (some ⟨g1, o1, none⟩) 4 c1), .int .i64 m.pc, (.slice (some ⟨g2, o2, none⟩) 64 c2), .int .i64 m.save, .bool m.lets, .bool m.waits, .int .i64 m.halt, (.slice A3 m.ins.length c3), (.slice A4 m.outs.length c4), .int .i64 m.count] 46)) #[.int .i64 b.pc, .int .i64 b.len, vb, .int .i64 b.fin, .int .i64 b.x, .int .i64 b.y, .int .i64 b.k] 25 (by first | rfl | (simp; done))) (by first | (simp; done) | (simp; omega)) (Obj.cells #[.int .i64 o.kind, .int .i64 o.x, .int .i64 o.y, .int .i64 o.k, .int .i64 o.at_] 58)) (by first | (simp; done) | (simp; omega)) (Obj.cells #[.slice none 0 0, .int .i64 0, .slice none 0 0, .int .i64 0, .bool false, .bool false, .int .i64 0, .slice none 0 0, .slice none 0 0, .int .i64 0] 46))
    have hBo_0 : Bx ((((w.alloc (Obj.cells #[(.slice (some ⟨g1, o1, none⟩) 4 c1), .int .i64 m.pc, (.slice (some ⟨g2, o2, none⟩) 64 c2), .int .i64 m.save, .bool m.lets, .bool m.waits, .int .i64 m.halt, (.slice A3 m.ins.length c3), (.slice A4 m.outs.length c4), .int .i64 m.count] 46)).alloc (Obj.cells #[.int .i64 b.pc, .int .i64 b.len, vb, .int .i64 b.fin, .int .i64 b.x, .int .i64 b.y, .int .i64 b.k] 25)).alloc (Obj.cells #[.int .i64 o.kind, .int .i64 o.x, .int .i64 o.y, .int .i64 o.k, .int .i64 o.at_] 58)).alloc (Obj.cells #[.slice none 0 0, .int .i64 0, .slice none 0 0, .int .i64 0, .bool false, .bool false, .int .i64 0, .slice none 0 0, .slice none 0 0, .int .i64 0] 46)) (w.heap.size + 1 + 1) [.int .i64 o.kind, .int .i64 o.x, .int .i64 o.y, .int .i64 o.k, .int .i64 o.at_] := (by have := (Bx.alloc (Bx.new ((w.alloc (Obj.cells #[(.slice (some ⟨g1, o1, none⟩) 4 c1), .int .i64 m.pc, (.slice (some ⟨g2, o2, none⟩) 64 c2), .int .i64 m.save, .bool m.lets, .bool m.waits, .int .i64 m.halt, (.slice A3 m.ins.length c3), (.slice A4 m.outs.length c4), .int .i64 m.count] 46)).alloc (Obj.cells #[.int .i64 b.pc, .int .i64 b.len, vb, .int .i64 b.fin, .int .i64 b.x, .int .i64 b.y, .int .i64 b.k] 25)) #[.int .i64 o.kind, .int .i64 o.x, .int .i64 o.y, .int .i64 o.k, .int .i64 o.at_] 58) (by simp) #[.slice none 0 0, .int .i64 0, .slice none 0 0, .int .i64 0, .bool false, .bool false, .int .i64 0, .slice none 0 0, .slice none 0 0, .int .i64 0] 46); simpa using this)
    have hFo_0 : ∀ oo, (((((w.alloc (Obj.cells #[(.slice (some ⟨g1, o1, none⟩) 4 c1), .int .i64 m.pc, (.slice (some ⟨g2, o2, none⟩) 64 c2), .int .i64 m.save, .bool m.lets, .bool m.waits, .int .i64 m.halt, (.slice A3 m.ins.length c3), (.slice A4 m.outs.length c4), .int .i64 m.count] 46)).alloc (Obj.cells #[.int .i64 b.pc, .int .i64 b.len, vb, .int .i64 b.fin, .int .i64 b.x, .int .i64 b.y, .int .i64 b.k] 25)).alloc (Obj.cells #[.int .i64 o.kind, .int .i64 o.x, .int .i64 o.y, .int .i64 o.k, .int .i64 o.at_] 58)).alloc (Obj.cells #[.slice none 0 0, .int .i64 0, .slice none 0 0, .int .i64 0, .bool false, .bool false, .int .i64 0, .slice none 0 0, .slice none 0 0, .int .i64 0] 46))).frozen? ⟨w.heap.size + 1 + 1, oo, none⟩ = false := (fz_alloc (fz_new ((w.alloc (Obj.cells #[(.slice (some ⟨g1, o1, none⟩) 4 c1), .int .i64 m.pc, (.slice (some ⟨g2, o2, none⟩) 64 c2), .int .i64 m.save, .bool m.lets, .bool m.waits, .int .i64 m.halt, (.slice A3 m.ins.length c3), (.slice A4 m.outs.length c4), .int .i64 m.count] 46)).alloc (Obj.cells #[.int .i64 b.pc, .int .i64 b.len, vb, .int .i64 b.fin, .int .i64 b.x, .int .i64 b.y, .int .i64 b.k] 25)) #[.int .i64 o.kind, .int .i64 o.x, .int .i64 o.y, .int .i64 o.k, .int .i64 o.at_] 58 (by first | rfl | (simp; done))) (by first | (simp; done) | (simp; omega)) (Obj.cells #[.slice none 0 0, .int .i64 0, .slice none 0 0, .int .i64 0, .bool false, .bool false, .int .i64 0, .slice none 0 0, .slice none 0 0, .int .i64 0] 46))
    have hBres_0 : Bx ((((w.alloc (Obj.cells #[(.slice (some ⟨g1, o1, none⟩) 4 c1), .int .i64 m.pc, (.slice (some ⟨g2, o2, none⟩) 64 c2), .int .i64 m.save, .bool m.lets, .bool m.waits, .int .i64 m.halt, (.slice A3 m.ins.length c3), (.slice A4 m.outs.length c4), .int .i64 m.count] 46)).alloc (Obj.cells #[.int .i64 b.pc, .int .i64 b.len, vb, .int .i64 b.fin, .int .i64 b.x, .int .i64 b.y, .int .i64 b.k] 25)).alloc (Obj.cells #[.int .i64 o.kind, .int .i64 o.x, .int .i64 o.y, .int .i64 o.k, .int .i64 o.at_] 58)).alloc (Obj.cells #[.slice none 0 0, .int .i64 0, .slice none 0 0, .int .i64 0, .bool false, .bool false, .int .i64 0, .slice none 0 0, .slice none 0 0, .int .i64 0] 46)) (w.heap.size + 1 + 1 + 1) [.slice none 0 0, .int .i64 0, .slice none 0 0, .int .i64 0, .bool false, .bool false, .int .i64 0, .slice none 0 0, .slice none 0 0, .int .i64 0] := (by have := (Bx.new (((w.alloc (Obj.cells #[(.slice (some ⟨g1, o1, none⟩) 4 c1), .int .i64 m.pc, (.slice (some ⟨g2, o2, none⟩) 64 c2), .int .i64 m.save, .bool m.lets, .bool m.waits, .int .i64 m.halt, (.slice A3 m.ins.length c3), (.slice A4 m.outs.length c4), .int .i64 m.count] 46)).alloc (Obj.cells #[.int .i64 b.pc, .int .i64 b.len, vb, .int .i64 b.fin, .int .i64 b.x, .int .i64 b.y, .int .i64 b.k] 25)).alloc (Obj.cells #[.int .i64 o.kind, .int .i64 o.x, .int .i64 o.y, .int .i64 o.k, .int .i64 o.at_] 58)) #[.slice none 0 0, .int .i64 0, .slice none 0 0, .int .i64 0, .bool false, .bool false, .int .i64 0, .slice none 0 0, .slice none 0 0, .int .i64 0] 46); simpa using this)
    have hFres_0 : ∀ oo, (((((w.alloc (Obj.cells #[(.slice (some ⟨g1, o1, none⟩) 4 c1), .int .i64 m.pc, (.slice (some ⟨g2, o2, none⟩) 64 c2), .int .i64 m.save, .bool m.lets, .bool m.waits, .int .i64 m.halt, (.slice A3 m.ins.length c3), (.slice A4 m.outs.length c4), .int .i64 m.count] 46)).alloc (Obj.cells #[.int .i64 b.pc, .int .i64 b.len, vb, .int .i64 b.fin, .int .i64 b.x, .int .i64 b.y, .int .i64 b.k] 25)).alloc (Obj.cells #[.int .i64 o.kind, .int .i64 o.x, .int .i64 o.y, .int .i64 o.k, .int .i64 o.at_] 58)).alloc (Obj.cells #[.slice none 0 0, .int .i64 0, .slice none 0 0, .int .i64 0, .bool false, .bool false, .int .i64 0, .slice none 0 0, .slice none 0 0, .int .i64 0] 46))).frozen? ⟨w.heap.size + 1 + 1 + 1, oo, none⟩ = false := (fz_new (((w.alloc (Obj.cells #[(.slice (some ⟨g1, o1, none⟩) 4 c1), .int .i64 m.pc, (.slice (some ⟨g2, o2, none⟩) 64 c2), .int .i64 m.save, .bool m.lets, .bool m.waits, .int .i64 m.halt, (.slice A3 m.ins.length c3), (.slice A4 m.outs.length c4), .int .i64 m.count] 46)).alloc (Obj.cells #[.int .i64 b.pc, .int .i64 b.len, vb, .int .i64 b.fin, .int .i64 b.x, .int .i64 b.y, .int .i64 b.k] 25)).alloc (Obj.cells #[.int .i64 o.kind, .int .i64 o.x, .int .i64 o.y, .int .i64 o.k, .int .i64 o.at_] 58)) #[.slice none 0 0, .int .i64 0, .slice none 0 0, .int .i64 0, .bool false, .bool false, .int .i64 0, .slice none 0 0, .slice none 0 0, .int .i64 0] 46 (by first | rfl | (simp; done)))
    generalize ((((w.alloc (Obj.cells #[(.slice (some ⟨g1, o1, none⟩) 4 c1), .int .i64 m.pc, (.slice (some ⟨g2, o2, none⟩) 64 c2), .int .i64 m.save, .bool m.lets, .bool m.waits, .int .i64 m.halt, (.slice A3 m.ins.length c3), (.slice A4 m.outs.length c4), .int .i64 m.count] 46)).alloc (Obj.cells #[.int .i64 b.pc, .int .i64 b.len, vb, .int .i64 b.fin, .int .i64 b.x, .int .i64 b.y, .int .i64 b.k] 25)).alloc (Obj.cells #[.int .i64 o.kind, .int .i64 o.x, .int .i64 o.y, .int .i64 o.k, .int .i64 o.at_] 58)).alloc (Obj.cells #[.slice none 0 0, .int .i64 0, .slice none 0 0, .int .i64 0, .bool false, .bool false, .int .i64 0, .slice none 0 0, .slice none 0 0, .int .i64 0] 46)) = w0 at *
    have ht0 : Turn (mfoot g1 g2 (.slice A4 m.outs.length c4)) w w0 := Turn.of_ext he0 _
    have hM0 : Mach 3 lo ((w.heap.size) :: (w.heap.size + 1) :: (w.heap.size + 1 + 1) :: (w.heap.size + 1 + 1 + 1) :: X) w0 g1 o1 c1 g2 o2 c2 (.slice A3 m.ins.length c3) (.slice A4 m.outs.length c4) m := hM.addXs he0 [w.heap.size, w.heap.size + 1, w.heap.size + 1 + 1, w.heap.size + 1 + 1 + 1] (by intro b hb; simp at hb; omega)
    have yg1 : g1 < w0.heap.size := by omega
    have yg2 : g2 < w0.heap.size := by omega
    have rQ := hM0.memAt hQ6
    have ym : w.heap.size < w0.heap.size := by omega
    have xm0 := hBm_0 0 _ rfl
    have xm1 := hBm_0 1 _ rfl
    have xm2 := hBm_0 2 _ rfl
    have xm3 := hBm_0 3 _ rfl
    have xm4 := hBm_0 4 _ rfl
    have xm5 := hBm_0 5 _ rfl
    have xm6 := hBm_0 6 _ rfl
    have xm7 := hBm_0 7 _ rfl
    have xm8 := hBm_0 8 _ rfl
    have xm9 := hBm_0 9 _ rfl
    have fm := hFm_0
    have yb : w.heap.size + 1 < w0.heap.size := by omega
    have xb0 := hBb_0 0 _ rfl
    have xb1 := hBb_0 1 _ rfl
    have xb2 := hBb_0 2 _ rfl
    have xb3 := hBb_0 3 _ rfl
    have xb4 := hBb_0 4 _ rfl
    have xb5 := hBb_0 5 _ rfl
    have xb6 := hBb_0 6 _ rfl
    have fb := hFb_0
    have yo : w.heap.size + 1 + 1 < w0.heap.size := by omega
    have xo0 := hBo_0 0 _ rfl
    have xo1 := hBo_0 1 _ rfl
    have xo2 := hBo_0 2 _ rfl
    have xo3 := hBo_0 3 _ rfl
    have xo4 := hBo_0 4 _ rfl
    have fo := hFo_0
    have yres : w.heap.size + 1 + 1 + 1 < w0.heap.size := by omega
    have xres0 := hBres_0 0 _ rfl
    have xres1 := hBres_0 1 _ rfl
    have xres2 := hBres_0 2 _ rfl
    have xres3 := hBres_0 3 _ rfl
    have xres4 := hBres_0 4 _ rfl
    have xres5 := hBres_0 5 _ rfl
    have xres6 := hBres_0 6 _ rfl
    have xres7 := hBres_0 7 _ rfl
    have xres8 := hBres_0 8 _ rfl
    have xres9 := hBres_0 9 _ rfl
    have fres := hFres_0
    go_upto_region 14 with fail
    have hSm : ∀ w', Turn [w.heap.size + 1 + 1 + 1] w0 w' → ∀ oo, w'.cell? ⟨w.heap.size, oo, none⟩ = w0.cell? ⟨w.heap.size, oo, none⟩ := fun w' hx oo => hx.cell ym (by simp <;> omega)
    have hSg : ∀ w', Turn [w.heap.size + 1 + 1 + 1] w0 w' → ∀ oo, w'.cell? ⟨g2, oo, none⟩ = w0.cell? ⟨g2, oo, none⟩ := fun w' hx oo => hx.cell yg2 (by simp <;> omega)
    refine wp_region_plan (fun w' => Turn [w.heap.size + 1 + 1 + 1] w0 w') 7 (.float 0 (.float 1 (.float 2 (.float 3 (.float 4 (.float 5 (.chain 6 (.tail 7)))))))) (by kernel_rfl) (by kernel_rfl) (Turn.of_ext (Ext.refl _).drew _) ?_
    iterate 6 ((refine Plan.float_step (v := ?_) rfl (by rfl) (fun _ _ _ h => h) (fun w' hSw => ?_) ?_; rotate_left; · (go_simp; try with_reducible rfl)); (try simp only [Act.put, List.setIfInBounds_toArray, List.set_cons_zero, List.set_cons_succ]))
    refine Plan.chain_step rfl (fun K hK => ?_)
    go_simp
    refine hK.out _ _ (by first | exact Turn.hold (Turn.refl _ _) | exact (Turn.hold (Turn.refl _ w0)).drew) ?_
    clear hK
    (try simp only [Act.put, List.setIfInBounds_toArray, List.set_cons_zero, List.set_cons_succ])
    refine Plan.tail_step ?_
    simp only [List.drop_succ_cons, List.drop_zero]
    clear hSm hSg
    clear xm0 xm1 xm2 xm3 xm4 xm5 xm6 xm7 xm8 xm9 ym
    clear fm
    clear xb0 xb1 xb2 xb3 xb4 xb5 xb6 yb
    clear fb
    clear xo0 xo1 xo2 xo3 xo4 yo
    clear fo
    clear xres0 xres1 xres2 xres3 xres4 xres5 xres6 xres7 xres8 xres9 yres
    clear fres
    have hM1 := hM0.drew
    have ym : w.heap.size < w0.heap.size := by omega
    have xm0 := hBm_0 0 _ rfl
    have xm1 := hBm_0 1 _ rfl
    have xm2 := hBm_0 2 _ rfl
    have xm3 := hBm_0 3 _ rfl
    have xm4 := hBm_0 4 _ rfl
    have xm5 := hBm_0 5 _ rfl
    have xm6 := hBm_0 6 _ rfl
    have xm7 := hBm_0 7 _ rfl
    have xm8 := hBm_0 8 _ rfl
    have xm9 := hBm_0 9 _ rfl
    have fm := hFm_0
    have yb : w.heap.size + 1 < w0.heap.size := by omega
    have xb0 := hBb_0 0 _ rfl
    have xb1 := hBb_0 1 _ rfl
    have xb2 := hBb_0 2 _ rfl
    have xb3 := hBb_0 3 _ rfl
    have xb4 := hBb_0 4 _ rfl
    have xb5 := hBb_0 5 _ rfl
    have xb6 := hBb_0 6 _ rfl
    have fb := hFb_0
    have yo : w.heap.size + 1 + 1 < w0.heap.size := by omega
    have xo0 := hBo_0 0 _ rfl
    have xo1 := hBo_0 1 _ rfl
    have xo2 := hBo_0 2 _ rfl
    have xo3 := hBo_0 3 _ rfl
    have xo4 := hBo_0 4 _ rfl
    have fo := hFo_0
    have yres : w.heap.size + 1 + 1 + 1 < w0.heap.size := by omega
    have xres0 := hBres_0 0 _ rfl
    have xres1 := hBres_0 1 _ rfl
    have xres2 := hBres_0 2 _ rfl
    have xres3 := hBres_0 3 _ rfl
    have xres4 := hBres_0 4 _ rfl
    have xres5 := hBres_0 5 _ rfl
    have xres6 := hBres_0 6 _ rfl
    have xres7 := hBres_0 7 _ rfl
    have xres8 := hBres_0 8 _ rfl
    have xres9 := hBres_0 9 _ rfl
    have fres := hFres_0
    have yres : w.heap.size + 1 + 1 + 1 < w0.heap.size := by omega
    have xres0 := hBres_0 0 _ rfl
    have xres1 := hBres_0 1 _ rfl
    have xres2 := hBres_0 2 _ rfl
    have xres3 := hBres_0 3 _ rfl
    have xres4 := hBres_0 4 _ rfl
    have xres5 := hBres_0 5 _ rfl
    have xres6 := hBres_0 6 _ rfl
    have xres7 := hBres_0 7 _ rfl
    have xres8 := hBres_0 8 _ rfl
    have xres9 := hBres_0 9 _ rfl
    have fres := hFres_0
    go_wp2
    refine bodyPost_ret (v := .tuple #[.agg #[(.slice (some ⟨g1, o1, none⟩) 4 c1), .int .i64 m.pc, (.slice (some ⟨g2, o2, none⟩) 64 c2), .int .i64 m.save, .bool m.lets, .bool m.waits, .int .i64 m.halt, (.slice A3 m.ins.length c3), (.slice A4 m.outs.length c4), .int .i64 m.count], .int .i64 (m.word (q : Int)), .bool false]) (by simp [results, Try.results56, go_sem, rLeave, MchMach.setM, xres0, xres1, xres2, xres3, xres4, xres5, xres6, xres7, xres8, xres9]) rfl ⟨_, _, by rw [HV.out]; try rfl, by rw [HV.out]; exact Mach.dropX (Mach.dropX (Mach.dropX (Mach.dropX (Mach.hold hM0)))), Turn.hold ht0, fun q hq => .inl hq⟩
  have q4 : (o.kind == 4) = false := by simp [h4]
  · 
    have hvv : ∀ v, overB b (q : Int) o.at_ = v → (rEvent b m o (q : Int) y) = if v = true then (rLeave b (m.setM (q : Int) y) (o.at_ + 1) 0, 0, true) else ((m.setM (q : Int) y), 0, false) := fun v hv => by unfold rEvent; rw [if_neg h7, if_neg h6, if_neg (by omega), if_neg h4, hv]
    have zw3 : IntKind.i64.wrap (o.at_ + 1) = o.at_ + 1 := by rw [IntKind.wrap_i64]; omega
    clear h7 h6 h45 h4 h64
    cases qv : overB b (q : Int) o.at_
    · 
      have HV := hide (show (rEvent b m o (q : Int) y) = ((m.setM (q : Int) y), 0, false) from hvv _ qv)
      have HQ := hide qv
      clear qv hvv
      go_enter Try.func56, Try.ntmps56
      go_upto_region 1 with fail
      have he0 : Ext w ((((w.alloc (Obj.cells #[(.slice (some ⟨g1, o1, none⟩) 4 c1), .int .i64 m.pc, (.slice (some ⟨g2, o2, none⟩) 64 c2), .int .i64 m.save, .bool m.lets, .bool m.waits, .int .i64 m.halt, (.slice A3 m.ins.length c3), (.slice A4 m.outs.length c4), .int .i64 m.count] 46)).alloc (Obj.cells #[.int .i64 b.pc, .int .i64 b.len, vb, .int .i64 b.fin, .int .i64 b.x, .int .i64 b.y, .int .i64 b.k] 25)).alloc (Obj.cells #[.int .i64 o.kind, .int .i64 o.x, .int .i64 o.y, .int .i64 o.k, .int .i64 o.at_] 58)).alloc (Obj.cells #[.slice none 0 0, .int .i64 0, .slice none 0 0, .int .i64 0, .bool false, .bool false, .int .i64 0, .slice none 0 0, .slice none 0 0, .int .i64 0] 46)) := (Ext.auto)
      have hs0 : w.heap.size + 4 ≤ (((((w.alloc (Obj.cells #[(.slice (some ⟨g1, o1, none⟩) 4 c1), .int .i64 m.pc, (.slice (some ⟨g2, o2, none⟩) 64 c2), .int .i64 m.save, .bool m.lets, .bool m.waits, .int .i64 m.halt, (.slice A3 m.ins.length c3), (.slice A4 m.outs.length c4), .int .i64 m.count] 46)).alloc (Obj.cells #[.int .i64 b.pc, .int .i64 b.len, vb, .int .i64 b.fin, .int .i64 b.x, .int .i64 b.y, .int .i64 b.k] 25)).alloc (Obj.cells #[.int .i64 o.kind, .int .i64 o.x, .int .i64 o.y, .int .i64 o.k, .int .i64 o.at_] 58)).alloc (Obj.cells #[.slice none 0 0, .int .i64 0, .slice none 0 0, .int .i64 0, .bool false, .bool false, .int .i64 0, .slice none 0 0, .slice none 0 0, .int .i64 0] 46))).heap.size := by simp
      have hq0 := hide (show (((((w.alloc (Obj.cells #[(.slice (some ⟨g1, o1, none⟩) 4 c1), .int .i64 m.pc, (.slice (some ⟨g2, o2, none⟩) 64 c2), .int .i64 m.save, .bool m.lets, .bool m.waits, .int .i64 m.halt, (.slice A3 m.ins.length c3), (.slice A4 m.outs.length c4), .int .i64 m.count] 46)).alloc (Obj.cells #[.int .i64 b.pc, .int .i64 b.len, vb, .int .i64 b.fin, .int .i64 b.x, .int .i64 b.y, .int .i64 b.k] 25)).alloc (Obj.cells #[.int .i64 o.kind, .int .i64 o.x, .int .i64 o.y, .int .i64 o.k, .int .i64 o.at_] 58)).alloc (Obj.cells #[.slice none 0 0, .int .i64 0, .slice none 0 0, .int .i64 0, .bool false, .bool false, .int .i64 0, .slice none 0 0, .slice none 0 0, .int .i64 0] 46))).heap.size = w.heap.size + 4 by simp)
      have hBm_0 : Bx ((((w.alloc (Obj.cells #[(.slice (some ⟨g1, o1, none⟩) 4 c1), .int .i64 m.pc, (.slice (some ⟨g2, o2, none⟩) 64 c2), .int .i64 m.save, .bool m.lets, .bool m.waits, .int .i64 m.halt, (.slice A3 m.ins.length c3), (.slice A4 m.outs.length c4), .int .i64 m.count] 46)).alloc (Obj.cells #[.int .i64 b.pc, .int .i64 b.len, vb, .int .i64 b.fin, .int .i64 b.x, .int .i64 b.y, .int .i64 b.k] 25)).alloc (Obj.cells #[.int .i64 o.kind, .int .i64 o.x, .int .i64 o.y, .int .i64 o.k, .int .i64 o.at_] 58)).alloc (Obj.cells #[.slice none 0 0, .int .i64 0, .slice none 0 0, .int .i64 0, .bool false, .bool false, .int .i64 0, .slice none 0 0, .slice none 0 0, .int .i64 0] 46)) (w.heap.size) [(.slice (some ⟨g1, o1, none⟩) 4 c1), .int .i64 m.pc, (.slice (some ⟨g2, o2, none⟩) 64 c2), .int .i64 m.save, .bool m.lets, .bool m.waits, .int .i64 m.halt, (.slice A3 m.ins.length c3), (.slice A4 m.outs.length c4), .int .i64 m.count] := (by have := (Bx.alloc (Bx.alloc (Bx.alloc (Bx.new w #[(.slice (some ⟨g1, o1, none⟩) 4 c1), .int .i64 m.pc, (.slice (some ⟨g2, o2, none⟩) 64 c2), .int .i64 m.save, .bool m.lets, .bool m.waits, .int .i64 m.halt, (.slice A3 m.ins.length c3), (.slice A4 m.outs.length c4), .int .i64 m.count] 46) (by simp) #[.int .i64 b.pc, .int .i64 b.len, vb, .int .i64 b.fin, .int .i64 b.x, .int .i64 b.y, .int .i64 b.k] 25) (by first | (simp; done) | (simp; omega)) #[.int .i64 o.kind, .int .i64 o.x, .int .i64 o.y, .int .i64 o.k, .int .i64 o.at_] 58) (by first | (simp; done) | (simp; omega)) #[.slice none 0 0, .int .i64 0, .slice none 0 0, .int .i64 0, .bool false, .bool false, .int .i64 0, .slice none 0 0, .slice none 0 0, .int .i64 0] 46); simpa using this)
      have hFm_0 : ∀ oo, (((((w.alloc (Obj.cells #[(.slice (some ⟨g1, o1, none⟩) 4 c1), .int .i64 m.pc, (.slice (some ⟨g2, o2, none⟩) 64 c2), .int .i64 m.save, .bool m.lets, .bool m.waits, .int .i64 m.halt, (.slice A3 m.ins.length c3), (.slice A4 m.outs.length c4), .int .i64 m.count] 46)).alloc (Obj.cells #[.int .i64 b.pc, .int .i64 b.len, vb, .int .i64 b.fin, .int .i64 b.x, .int .i64 b.y, .int .i64 b.k] 25)).alloc (Obj.cells #[.int .i64 o.kind, .int .i64 o.x, .int .i64 o.y, .int .i64 o.k, .int .i64 o.at_] 58)).alloc (Obj.cells #[.slice none 0 0, .int .i64 0, .slice none 0 0, .int .i64 0, .bool false, .bool false, .int .i64 0, .slice none 0 0, .slice none 0 0, .int .i64 0] 46))).frozen? ⟨w.heap.size, oo, none⟩ = false := (fz_alloc (fz_alloc (fz_alloc (fz_new w #[(.slice (some ⟨g1, o1, none⟩) 4 c1), .int .i64 m.pc, (.slice (some ⟨g2, o2, none⟩) 64 c2), .int .i64 m.save, .bool m.lets, .bool m.waits, .int .i64 m.halt, (.slice A3 m.ins.length c3), (.slice A4 m.outs.length c4), .int .i64 m.count] 46 (by first | rfl | (simp; done))) (by first | (simp; done) | (simp; omega)) (Obj.cells #[.int .i64 b.pc, .int .i64 b.len, vb, .int .i64 b.fin, .int .i64 b.x, .int .i64 b.y, .int .i64 b.k] 25)) (by first | (simp; done) | (simp; omega)) (Obj.cells #[.int .i64 o.kind, .int .i64 o.x, .int .i64 o.y, .int .i64 o.k, .int .i64 o.at_] 58)) (by first | (simp; done) | (simp; omega)) (Obj.cells #[.slice none 0 0, .int .i64 0, .slice none 0 0, .int .i64 0, .bool false, .bool false, .int .i64 0, .slice none 0 0, .slice none 0 0, .int .i64 0] 46))
      have hBb_0 : Bx ((((w.alloc (Obj.cells #[(.slice (some ⟨g1, o1, none⟩) 4 c1), .int .i64 m.pc, (.slice (some ⟨g2, o2, none⟩) 64 c2), .int .i64 m.save, .bool m.lets, .bool m.waits, .int .i64 m.halt, (.slice A3 m.ins.length c3), (.slice A4 m.outs.length c4), .int .i64 m.count] 46)).alloc (Obj.cells #[.int .i64 b.pc, .int .i64 b.len, vb, .int .i64 b.fin, .int .i64 b.x, .int .i64 b.y, .int .i64 b.k] 25)).alloc (Obj.cells #[.int .i64 o.kind, .int .i64 o.x, .int .i64 o.y, .int .i64 o.k, .int .i64 o.at_] 58)).alloc (Obj.cells #[.slice none 0 0, .int .i64 0, .slice none 0 0, .int .i64 0, .bool false, .bool false, .int .i64 0, .slice none 0 0, .slice none 0 0, .int .i64 0] 46)) (w.heap.size + 1) [.int .i64 b.pc, .int .i64 b.len, vb, .int .i64 b.fin, .int .i64 b.x, .int .i64 b.y, .int .i64 b.k] := (by have := (Bx.alloc (Bx.alloc (Bx.new (w.alloc (Obj.cells #[(.slice (some ⟨g1, o1, none⟩) 4 c1), .int .i64 m.pc, (.slice (some ⟨g2, o2, none⟩) 64 c2), .int .i64 m.save, .bool m.lets, .bool m.waits, .int .i64 m.halt, (.slice A3 m.ins.length c3), (.slice A4 m.outs.length c4), .int .i64 m.count] 46)) #[.int .i64 b.pc, .int .i64 b.len, vb, .int .i64 b.fin, .int .i64 b.x, .int .i64 b.y, .int .i64 b.k] 25) (by simp) #[.int .i64 o.kind, .int .i64 o.x, .int .i64 o.y, .int .i64 o.k, .int .i64 o.at_] 58) (by first | (simp; done) | (simp; omega)) #[.slice none 0 0, .int .i64 0, .slice none 0 0, .int .i64 0, .bool false, .bool false, .int .i64 0, .slice none 0 0, .slice none 0 0, .int .i64 0] 46); simpa using this)
      have hFb_0 : ∀ oo, (((((w.alloc (Obj.cells #[(.slice (some ⟨g1, o1, none⟩) 4 c1), .int .i64 m.pc, (.slice (some ⟨g2, o2, none⟩) 64 c2), .int .i64 m.save, .bool m.lets, .bool m.waits, .int .i64 m.halt, (.slice A3 m.ins.length c3), (.slice A4 m.outs.length c4), .int .i64 m.count] 46)).alloc (Obj.cells #[.int .i64 b.pc, .int .i64 b.len, vb, .int .i64 b.fin, .int .i64 b.x, .int .i64 b.y, .int .i64 b.k] 25)).alloc (Obj.cells #[.int .i64 o.kind, .int .i64 o.x, .int .i64 o.y, .int .i64 o.k, .int .i64 o.at_] 58)).alloc (Obj.cells #[.slice none 0 0, .int .i64 0, .slice none 0 0, .int .i64 0, .bool false, .bool false, .int .i64 0, .slice none 0 0, .slice none 0 0, .int .i64 0] 46))).frozen? ⟨w.heap.size + 1, oo, none⟩ = false := (fz_alloc (fz_alloc (fz_new (w.alloc (Obj.cells #[(.slice (some ⟨g1, o1, none⟩) 4 c1), .int .i64 m.pc, (.slice (some ⟨g2, o2, none⟩) 64 c2), .int .i64 m.save, .bool m.lets, .bool m.waits, .int .i64 m.halt, (.slice A3 m.ins.length c3), (.slice A4 m.outs.length c4), .int .i64 m.count] 46)) #[.int .i64 b.pc, .int .i64 b.len, vb, .int .i64 b.fin, .int .i64 b.x, .int .i64 b.y, .int .i64 b.k] 25 (by first | rfl | (simp; done))) (by first | (simp; done) | (simp; omega)) (Obj.cells #[.int .i64 o.kind, .int .i64 o.x, .int .i64 o.y, .int .i64 o.k, .int .i64 o.at_] 58)) (by first | (simp; done) | (simp; omega)) (Obj.cells #[.slice none 0 0, .int .i64 0, .slice none 0 0, .int .i64 0, .bool false, .bool false, .int .i64 0, .slice none 0 0, .slice none 0 0, .int .i64 0] 46))
      have hBo_0 : Bx ((((w.alloc (Obj.cells #[(.slice (some ⟨g1, o1, none⟩) 4 c1), .int .i64 m.pc, (.slice (some ⟨g2, o2, none⟩) 64 c2), .int .i64 m.save, .bool m.lets, .bool m.waits, .int .i64 m.halt, (.slice A3 m.ins.length c3), (.slice A4 m.outs.length c4), .int .i64 m.count] 46)).alloc (Obj.cells #[.int .i64 b.pc, .int .i64 b.len, vb, .int .i64 b.fin, .int .i64 b.x, .int .i64 b.y, .int .i64 b.k] 25)).alloc (Obj.cells #[.int .i64 o.kind, .int .i64 o.x, .int .i64 o.y, .int .i64 o.k, .int .i64 o.at_] 58)).alloc (Obj.cells #[.slice none 0 0, .int .i64 0, .slice none 0 0, .int .i64 0, .bool false, .bool false, .int .i64 0, .slice none 0 0, .slice none 0 0, .int .i64 0] 46)) (w.heap.size + 1 + 1) [.int .i64 o.kind, .int .i64 o.x, .int .i64 o.y, .int .i64 o.k, .int .i64 o.at_] := (by have := (Bx.alloc (Bx.new ((w.alloc (Obj.cells #[(.slice (some ⟨g1, o1, none⟩) 4 c1), .int .i64 m.pc, (.slice (some ⟨g2, o2, none⟩) 64 c2), .int .i64 m.save, .bool m.lets, .bool m.waits, .int .i64 m.halt, (.slice A3 m.ins.length c3), (.slice A4 m.outs.length c4), .int .i64 m.count] 46)).alloc (Obj.cells #[.int .i64 b.pc, .int .i64 b.len, vb, .int .i64 b.fin, .int .i64 b.x, .int .i64 b.y, .int .i64 b.k] 25)) #[.int .i64 o.kind, .int .i64 o.x, .int .i64 o.y, .int .i64 o.k, .int .i64 o.at_] 58) (by simp) #[.slice none 0 0, .int .i64 0, .slice none 0 0, .int .i64 0, .bool false, .bool false, .int .i64 0, .slice none 0 0, .slice none 0 0, .int .i64 0] 46); simpa using this)
      have hFo_0 : ∀ oo, (((((w.alloc (Obj.cells #[(.slice (some ⟨g1, o1, none⟩) 4 c1), .int .i64 m.pc, (.slice (some ⟨g2, o2, none⟩) 64 c2), .int .i64 m.save, .bool m.lets, .bool m.waits, .int .i64 m.halt, (.slice A3 m.ins.length c3), (.slice A4 m.outs.length c4), .int .i64 m.count] 46)).alloc (Obj.cells #[.int .i64 b.pc, .int .i64 b.len, vb, .int .i64 b.fin, .int .i64 b.x, .int .i64 b.y, .int .i64 b.k] 25)).alloc (Obj.cells #[.int .i64 o.kind, .int .i64 o.x, .int .i64 o.y, .int .i64 o.k, .int .i64 o.at_] 58)).alloc (Obj.cells #[.slice none 0 0, .int .i64 0, .slice none 0 0, .int .i64 0, .bool false, .bool false, .int .i64 0, .slice none 0 0, .slice none 0 0, .int .i64 0] 46))).frozen? ⟨w.heap.size + 1 + 1, oo, none⟩ = false := (fz_alloc (fz_new ((w.alloc (Obj.cells #[(.slice (some ⟨g1, o1, none⟩) 4 c1), .int .i64 m.pc, (.slice (some ⟨g2, o2, none⟩) 64 c2), .int .i64 m.save, .bool m.lets, .bool m.waits, .int .i64 m.halt, (.slice A3 m.ins.length c3), (.slice A4 m.outs.length c4), .int .i64 m.count] 46)).alloc (Obj.cells #[.int .i64 b.pc, .int .i64 b.len, vb, .int .i64 b.fin, .int .i64 b.x, .int .i64 b.y, .int .i64 b.k] 25)) #[.int .i64 o.kind, .int .i64 o.x, .int .i64 o.y, .int .i64 o.k, .int .i64 o.at_] 58 (by first | rfl | (simp; done))) (by first | (simp; done) | (simp; omega)) (Obj.cells #[.slice none 0 0, .int .i64 0, .slice none 0 0, .int .i64 0, .bool false, .bool false, .int .i64 0, .slice none 0 0, .slice none 0 0, .int .i64 0] 46))
      have hBres_0 : Bx ((((w.alloc (Obj.cells #[(.slice (some ⟨g1, o1, none⟩) 4 c1), .int .i64 m.pc, (.slice (some ⟨g2, o2, none⟩) 64 c2), .int .i64 m.save, .bool m.lets, .bool m.waits, .int .i64 m.halt, (.slice A3 m.ins.length c3), (.slice A4 m.outs.length c4), .int .i64 m.count] 46)).alloc (Obj.cells #[.int .i64 b.pc, .int .i64 b.len, vb, .int .i64 b.fin, .int .i64 b.x, .int .i64 b.y, .int .i64 b.k] 25)).alloc (Obj.cells #[.int .i64 o.kind, .int .i64 o.x, .int .i64 o.y, .int .i64 o.k, .int .i64 o.at_] 58)).alloc (Obj.cells #[.slice none 0 0, .int .i64 0, .slice none 0 0, .int .i64 0, .bool false, .bool false, .int .i64 0, .slice none 0 0, .slice none 0 0, .int .i64 0] 46)) (w.heap.size + 1 + 1 + 1) [.slice none 0 0, .int .i64 0, .slice none 0 0, .int .i64 0, .bool false, .bool false, .int .i64 0, .slice none 0 0, .slice none 0 0, .int .i64 0] := (by have := (Bx.new (((w.alloc (Obj.cells #[(.slice (some ⟨g1, o1, none⟩) 4 c1), .int .i64 m.pc, (.slice (some ⟨g2, o2, none⟩) 64 c2), .int .i64 m.save, .bool m.lets, .bool m.waits, .int .i64 m.halt, (.slice A3 m.ins.length c3), (.slice A4 m.outs.length c4), .int .i64 m.count] 46)).alloc (Obj.cells #[.int .i64 b.pc, .int .i64 b.len, vb, .int .i64 b.fin, .int .i64 b.x, .int .i64 b.y, .int .i64 b.k] 25)).alloc (Obj.cells #[.int .i64 o.kind, .int .i64 o.x, .int .i64 o.y, .int .i64 o.k, .int .i64 o.at_] 58)) #[.slice none 0 0, .int .i64 0, .slice none 0 0, .int .i64 0, .bool false, .bool false, .int .i64 0, .slice none 0 0, .slice none 0 0, .int .i64 0] 46); simpa using this)
      have hFres_0 : ∀ oo, (((((w.alloc (Obj.cells #[(.slice (some ⟨g1, o1, none⟩) 4 c1), .int .i64 m.pc, (.slice (some ⟨g2, o2, none⟩) 64 c2), .int .i64 m.save, .bool m.lets, .bool m.waits, .int .i64 m.halt, (.slice A3 m.ins.length c3), (.slice A4 m.outs.length c4), .int .i64 m.count] 46)).alloc (Obj.cells #[.int .i64 b.pc, .int .i64 b.len, vb, .int .i64 b.fin, .int .i64 b.x, .int .i64 b.y, .int .i64 b.k] 25)).alloc (Obj.cells #[.int .i64 o.kind, .int .i64 o.x, .int .i64 o.y, .int .i64 o.k, .int .i64 o.at_] 58)).alloc (Obj.cells #[.slice none 0 0, .int .i64 0, .slice none 0 0, .int .i64 0, .bool false, .bool false, .int .i64 0, .slice none 0 0, .slice none 0 0, .int .i64 0] 46))).frozen? ⟨w.heap.size + 1 + 1 + 1, oo, none⟩ = false := (fz_new (((w.alloc (Obj.cells #[(.slice (some ⟨g1, o1, none⟩) 4 c1), .int .i64 m.pc, (.slice (some ⟨g2, o2, none⟩) 64 c2), .int .i64 m.save, .bool m.lets, .bool m.waits, .int .i64 m.halt, (.slice A3 m.ins.length c3), (.slice A4 m.outs.length c4), .int .i64 m.count] 46)).alloc (Obj.cells #[.int .i64 b.pc, .int .i64 b.len, vb, .int .i64 b.fin, .int .i64 b.x, .int .i64 b.y, .int .i64 b.k] 25)).alloc (Obj.cells #[.int .i64 o.kind, .int .i64 o.x, .int .i64 o.y, .int .i64 o.k, .int .i64 o.at_] 58)) #[.slice none 0 0, .int .i64 0, .slice none 0 0, .int .i64 0, .bool false, .bool false, .int .i64 0, .slice none 0 0, .slice none 0 0, .int .i64 0] 46 (by first | rfl | (simp; done)))
      generalize ((((w.alloc (Obj.cells #[(.slice (some ⟨g1, o1, none⟩) 4 c1), .int .i64 m.pc, (.slice (some ⟨g2, o2, none⟩) 64 c2), .int .i64 m.save, .bool m.lets, .bool m.waits, .int .i64 m.halt, (.slice A3 m.ins.length c3), (.slice A4 m.outs.length c4), .int .i64 m.count] 46)).alloc (Obj.cells #[.int .i64 b.pc, .int .i64 b.len, vb, .int .i64 b.fin, .int .i64 b.x, .int .i64 b.y, .int .i64 b.k] 25)).alloc (Obj.cells #[.int .i64 o.kind, .int .i64 o.x, .int .i64 o.y, .int .i64 o.k, .int .i64 o.at_] 58)).alloc (Obj.cells #[.slice none 0 0, .int .i64 0, .slice none 0 0, .int .i64 0, .bool false, .bool false, .int .i64 0, .slice none 0 0, .slice none 0 0, .int .i64 0] 46)) = w0 at *
      have ht0 : Turn (mfoot g1 g2 (.slice A4 m.outs.length c4)) w w0 := Turn.of_ext he0 _
      have hM0 : Mach 3 lo ((w.heap.size) :: (w.heap.size + 1) :: (w.heap.size + 1 + 1) :: (w.heap.size + 1 + 1 + 1) :: X) w0 g1 o1 c1 g2 o2 c2 (.slice A3 m.ins.length c3) (.slice A4 m.outs.length c4) m := hM.addXs he0 [w.heap.size, w.heap.size + 1, w.heap.size + 1 + 1, w.heap.size + 1 + 1 + 1] (by intro b hb; simp at hb; omega)
      have yg1 : g1 < w0.heap.size := by omega
      have yg2 : g2 < w0.heap.size := by omega
      have fr2 := hM0.fz2
      have rQ := hM0.memAt hQ6
      have ym : w.heap.size < w0.heap.size := by omega
      have xm0 := hBm_0 0 _ rfl
      have xm1 := hBm_0 1 _ rfl
      have xm2 := hBm_0 2 _ rfl
      have xm3 := hBm_0 3 _ rfl
      have xm4 := hBm_0 4 _ rfl
      have xm5 := hBm_0 5 _ rfl
      have xm6 := hBm_0 6 _ rfl
      have xm7 := hBm_0 7 _ rfl
      have xm8 := hBm_0 8 _ rfl
      have xm9 := hBm_0 9 _ rfl
      have fm := hFm_0
      have yb : w.heap.size + 1 < w0.heap.size := by omega
      have xb0 := hBb_0 0 _ rfl
      have xb1 := hBb_0 1 _ rfl
      have xb2 := hBb_0 2 _ rfl
      have xb3 := hBb_0 3 _ rfl
      have xb4 := hBb_0 4 _ rfl
      have xb5 := hBb_0 5 _ rfl
      have xb6 := hBb_0 6 _ rfl
      have fb := hFb_0
      have yo : w.heap.size + 1 + 1 < w0.heap.size := by omega
      have xo0 := hBo_0 0 _ rfl
      have xo1 := hBo_0 1 _ rfl
      have xo2 := hBo_0 2 _ rfl
      have xo3 := hBo_0 3 _ rfl
      have xo4 := hBo_0 4 _ rfl
      have fo := hFo_0
      have yres : w.heap.size + 1 + 1 + 1 < w0.heap.size := by omega
      have xres0 := hBres_0 0 _ rfl
      have xres1 := hBres_0 1 _ rfl
      have xres2 := hBres_0 2 _ rfl
      have xres3 := hBres_0 3 _ rfl
      have xres4 := hBres_0 4 _ rfl
      have xres5 := hBres_0 5 _ rfl
      have xres6 := hBres_0 6 _ rfl
      have xres7 := hBres_0 7 _ rfl
      have xres8 := hBres_0 8 _ rfl
      have xres9 := hBres_0 9 _ rfl
      have fres := hFres_0
      go_upto_region 16 with fail
      clear xm0 xm1 xm2 xm3 xm4 xm5 xm6 xm7 xm8 xm9 ym
      clear fm
      clear xb0 xb1 xb2 xb3 xb4 xb5 xb6 yb
      clear fb
      clear xo0 xo1 xo2 xo3 xo4 yo
      clear fo
      clear xres0 xres1 xres2 xres3 xres4 xres5 xres6 xres7 xres8 xres9 yres
      clear fres
      clear rQ fr2
      have hM1 := hM0.setMem hQ6 (n := y) ⟨by omega, by omega⟩
      have ht1 : Turn (mfoot g1 g2 (.slice A4 m.outs.length c4)) w (w0.setCell ⟨g2, o2 + q, none⟩ (.int .i64 y)) := ((Turn.hold ht0).set (.inl (by first | (unfold mfoot; simp; done) | (simp; done))) _)
      have hs1 : w.heap.size + 4 ≤ (w0.setCell ⟨g2, o2 + q, none⟩ (.int .i64 y)).heap.size := by simp; omega
      have hBm_1 : Bx (w0.setCell ⟨g2, o2 + q, none⟩ (.int .i64 y)) (w.heap.size) [(.slice (some ⟨g1, o1, none⟩) 4 c1), .int .i64 m.pc, (.slice (some ⟨g2, o2, none⟩) 64 c2), .int .i64 m.save, .bool m.lets, .bool m.waits, .int .i64 m.halt, (.slice A3 m.ins.length c3), (.slice A4 m.outs.length c4), .int .i64 m.count] := Bx.hold hBm_0
      have hFm_1 : ∀ oo, (w0.setCell ⟨g2, o2 + q, none⟩ (.int .i64 y)).frozen? ⟨w.heap.size, oo, none⟩ = false := fz_hold hFm_0
      have hBb_1 : Bx (w0.setCell ⟨g2, o2 + q, none⟩ (.int .i64 y)) (w.heap.size + 1) [.int .i64 b.pc, .int .i64 b.len, vb, .int .i64 b.fin, .int .i64 b.x, .int .i64 b.y, .int .i64 b.k] := Bx.hold hBb_0
      have hFb_1 : ∀ oo, (w0.setCell ⟨g2, o2 + q, none⟩ (.int .i64 y)).frozen? ⟨w.heap.size + 1, oo, none⟩ = false := fz_hold hFb_0
      have hBo_1 : Bx (w0.setCell ⟨g2, o2 + q, none⟩ (.int .i64 y)) (w.heap.size + 1 + 1) [.int .i64 o.kind, .int .i64 o.x, .int .i64 o.y, .int .i64 o.k, .int .i64 o.at_] := Bx.hold hBo_0
      have hFo_1 : ∀ oo, (w0.setCell ⟨g2, o2 + q, none⟩ (.int .i64 y)).frozen? ⟨w.heap.size + 1 + 1, oo, none⟩ = false := fz_hold hFo_0
      have hBres_1 : Bx (w0.setCell ⟨g2, o2 + q, none⟩ (.int .i64 y)) (w.heap.size + 1 + 1 + 1) [.slice none 0 0, .int .i64 0, .slice none 0 0, .int .i64 0, .bool false, .bool false, .int .i64 0, .slice none 0 0, .slice none 0 0, .int .i64 0] := Bx.hold hBres_0
      have hFres_1 : ∀ oo, (w0.setCell ⟨g2, o2 + q, none⟩ (.int .i64 y)).frozen? ⟨w.heap.size + 1 + 1 + 1, oo, none⟩ = false := fz_hold hFres_0
      generalize (w0.setCell ⟨g2, o2 + q, none⟩ (.int .i64 y)) = w1 at *
      clear hBm_0 hFm_0 hBb_0 hFb_0 hBo_0 hFo_0 hBres_0 hFres_0
      have hM1 := hM1.same (m' := (m.setM (q : Int) y)) rfl rfl rfl rfl
      clear hM0
      have ym : w.heap.size < w1.heap.size := by omega
      have xm0 := hBm_1 0 _ rfl
      have xm1 := hBm_1 1 _ rfl
      have xm2 := hBm_1 2 _ rfl
      have xm3 := hBm_1 3 _ rfl
      have xm4 := hBm_1 4 _ rfl
      have xm5 := hBm_1 5 _ rfl
      have xm6 := hBm_1 6 _ rfl
      have xm7 := hBm_1 7 _ rfl
      have xm8 := hBm_1 8 _ rfl
      have xm9 := hBm_1 9 _ rfl
      have fm := hFm_1
      have yb : w.heap.size + 1 < w1.heap.size := by omega
      have xb0 := hBb_1 0 _ rfl
      have xb1 := hBb_1 1 _ rfl
      have xb2 := hBb_1 2 _ rfl
      have xb3 := hBb_1 3 _ rfl
      have xb4 := hBb_1 4 _ rfl
      have xb5 := hBb_1 5 _ rfl
      have xb6 := hBb_1 6 _ rfl
      have fb := hFb_1
      have yo : w.heap.size + 1 + 1 < w1.heap.size := by omega
      have xo0 := hBo_1 0 _ rfl
      have xo1 := hBo_1 1 _ rfl
      have xo2 := hBo_1 2 _ rfl
      have xo3 := hBo_1 3 _ rfl
      have xo4 := hBo_1 4 _ rfl
      have fo := hFo_1
      have yres : w.heap.size + 1 + 1 + 1 < w1.heap.size := by omega
      have xres0 := hBres_1 0 _ rfl
      have xres1 := hBres_1 1 _ rfl
      have xres2 := hBres_1 2 _ rfl
      have xres3 := hBres_1 3 _ rfl
      have xres4 := hBres_1 4 _ rfl
      have xres5 := hBres_1 5 _ rfl
      have xres6 := hBres_1 6 _ rfl
      have xres7 := hBres_1 7 _ rfl
      have xres8 := hBres_1 8 _ rfl
      have xres9 := hBres_1 9 _ rfl
      have fres := hFres_1
      go_wp2_with fail
      refine (l6Over_any b _ (q : Int) o.at_ _ hb1 hb2 hat).mono ?_
      rintro e w2 ⟨rfl, hy⟩
      rw [HQ.out]
      clear xm0 xm1 xm2 xm3 xm4 xm5 xm6 xm7 xm8 xm9 ym
      clear fm
      clear xb0 xb1 xb2 xb3 xb4 xb5 xb6 yb
      clear fb
      clear xo0 xo1 xo2 xo3 xo4 yo
      clear fo
      clear xres0 xres1 xres2 xres3 xres4 xres5 xres6 xres7 xres8 xres9 yres
      clear fres
      have hs2 := hy.size
      try simp at hs2
      have ht2 : Turn (mfoot g1 g2 (.slice A4 m.outs.length c4)) w w2 := (Turn.hold ht1).call hy
      have hBm_2 : Bx w2 (w.heap.size) [(.slice (some ⟨g1, o1, none⟩) 4 c1), .int .i64 m.pc, (.slice (some ⟨g2, o2, none⟩) 64 c2), .int .i64 m.save, .bool m.lets, .bool m.waits, .int .i64 m.halt, (.slice A3 m.ins.length c3), (.slice A4 m.outs.length c4), .int .i64 m.count] := hy.bx (Bx.hold hBm_1) (by first | omega | (simp; done) | (simp; omega))
      have hFm_2 : ∀ oo, w2.frozen? ⟨w.heap.size, oo, none⟩ = false := fun oo => (hy.frozen (by first | omega | (simp; done) | (simp; omega))).trans ((fz_hold hFm_1) oo)
      have hBb_2 : Bx w2 (w.heap.size + 1) [.int .i64 b.pc, .int .i64 b.len, vb, .int .i64 b.fin, .int .i64 b.x, .int .i64 b.y, .int .i64 b.k] := hy.bx (Bx.hold hBb_1) (by first | omega | (simp; done) | (simp; omega))
      have hFb_2 : ∀ oo, w2.frozen? ⟨w.heap.size + 1, oo, none⟩ = false := fun oo => (hy.frozen (by first | omega | (simp; done) | (simp; omega))).trans ((fz_hold hFb_1) oo)
      have hBo_2 : Bx w2 (w.heap.size + 1 + 1) [.int .i64 o.kind, .int .i64 o.x, .int .i64 o.y, .int .i64 o.k, .int .i64 o.at_] := hy.bx (Bx.hold hBo_1) (by first | omega | (simp; done) | (simp; omega))
      have hFo_2 : ∀ oo, w2.frozen? ⟨w.heap.size + 1 + 1, oo, none⟩ = false := fun oo => (hy.frozen (by first | omega | (simp; done) | (simp; omega))).trans ((fz_hold hFo_1) oo)
      have hBres_2 : Bx w2 (w.heap.size + 1 + 1 + 1) [.slice none 0 0, .int .i64 0, .slice none 0 0, .int .i64 0, .bool false, .bool false, .int .i64 0, .slice none 0 0, .slice none 0 0, .int .i64 0] := hy.bx (Bx.hold hBres_1) (by first | omega | (simp; done) | (simp; omega))
      have hFres_2 : ∀ oo, w2.frozen? ⟨w.heap.size + 1 + 1 + 1, oo, none⟩ = false := fun oo => (hy.frozen (by first | omega | (simp; done) | (simp; omega))).trans ((fz_hold hFres_1) oo)
      try clear hBm_1 hFm_1 hBb_1 hFb_1 hBo_1 hFo_1 hBres_1 hFres_1
      have hM2 := hM1.ext hy
      clear hy hM1
      have ym : w.heap.size < w2.heap.size := by omega
      have xm0 := hBm_2 0 _ rfl
      have xm1 := hBm_2 1 _ rfl
      have xm2 := hBm_2 2 _ rfl
      have xm3 := hBm_2 3 _ rfl
      have xm4 := hBm_2 4 _ rfl
      have xm5 := hBm_2 5 _ rfl
      have xm6 := hBm_2 6 _ rfl
      have xm7 := hBm_2 7 _ rfl
      have xm8 := hBm_2 8 _ rfl
      have xm9 := hBm_2 9 _ rfl
      have fm := hFm_2
      have yb : w.heap.size + 1 < w2.heap.size := by omega
      have xb0 := hBb_2 0 _ rfl
      have xb1 := hBb_2 1 _ rfl
      have xb2 := hBb_2 2 _ rfl
      have xb3 := hBb_2 3 _ rfl
      have xb4 := hBb_2 4 _ rfl
      have xb5 := hBb_2 5 _ rfl
      have xb6 := hBb_2 6 _ rfl
      have fb := hFb_2
      have yo : w.heap.size + 1 + 1 < w2.heap.size := by omega
      have xo0 := hBo_2 0 _ rfl
      have xo1 := hBo_2 1 _ rfl
      have xo2 := hBo_2 2 _ rfl
      have xo3 := hBo_2 3 _ rfl
      have xo4 := hBo_2 4 _ rfl
      have fo := hFo_2
      have yres : w.heap.size + 1 + 1 + 1 < w2.heap.size := by omega
      have xres0 := hBres_2 0 _ rfl
      have xres1 := hBres_2 1 _ rfl
      have xres2 := hBres_2 2 _ rfl
      have xres3 := hBres_2 3 _ rfl
      have xres4 := hBres_2 4 _ rfl
      have xres5 := hBres_2 5 _ rfl
      have xres6 := hBres_2 6 _ rfl
      have xres7 := hBres_2 7 _ rfl
      have xres8 := hBres_2 8 _ rfl
      have xres9 := hBres_2 9 _ rfl
      have fres := hFres_2
      go_wp2
      refine bodyPost_ret (v := .tuple #[.agg #[(.slice (some ⟨g1, o1, none⟩) 4 c1), .int .i64 ((m.setM (q : Int) y).pc), (.slice (some ⟨g2, o2, none⟩) 64 c2), .int .i64 ((m.setM (q : Int) y).save), .bool (m.setM (q : Int) y).lets, .bool (m.setM (q : Int) y).waits, .int .i64 ((m.setM (q : Int) y).halt), (.slice A3 m.ins.length c3), (.slice A4 m.outs.length c4), .int .i64 ((m.setM (q : Int) y).count)], .int .i64 0, .bool false]) (by simp [results, Try.results56, go_sem, rLeave, MchMach.setM, xres0, xres1, xres2, xres3, xres4, xres5, xres6, xres7, xres8, xres9]) rfl ⟨_, _, by rw [HV.out]; try rfl, by rw [HV.out]; exact Mach.dropX (Mach.dropX (Mach.dropX (Mach.dropX (Mach.hold hM2)))), Turn.hold ht2, fun q hq => .inl hq⟩
    · 
      have HV := hide (show (rEvent b m o (q : Int) y) = ((rLeave b (m.setM (q : Int) y) (o.at_ + 1) 0), 0, true) from hvv _ qv)
      have HQ := hide qv
      clear qv hvv
      go_enter Try.func56, Try.ntmps56
      go_upto_region 1 with fail
      have he0 : Ext w ((((w.alloc (Obj.cells #[(.slice (some ⟨g1, o1, none⟩) 4 c1), .int .i64 m.pc, (.slice (some ⟨g2, o2, none⟩) 64 c2), .int .i64 m.save, .bool m.lets, .bool m.waits, .int .i64 m.halt, (.slice A3 m.ins.length c3), (.slice A4 m.outs.length c4), .int .i64 m.count] 46)).alloc (Obj.cells #[.int .i64 b.pc, .int .i64 b.len, vb, .int .i64 b.fin, .int .i64 b.x, .int .i64 b.y, .int .i64 b.k] 25)).alloc (Obj.cells #[.int .i64 o.kind, .int .i64 o.x, .int .i64 o.y, .int .i64 o.k, .int .i64 o.at_] 58)).alloc (Obj.cells #[.slice none 0 0, .int .i64 0, .slice none 0 0, .int .i64 0, .bool false, .bool false, .int .i64 0, .slice none 0 0, .slice none 0 0, .int .i64 0] 46)) := (Ext.auto)
      have hs0 : w.heap.size + 4 ≤ (((((w.alloc (Obj.cells #[(.slice (some ⟨g1, o1, none⟩) 4 c1), .int .i64 m.pc, (.slice (some ⟨g2, o2, none⟩) 64 c2), .int .i64 m.save, .bool m.lets, .bool m.waits, .int .i64 m.halt, (.slice A3 m.ins.length c3), (.slice A4 m.outs.length c4), .int .i64 m.count] 46)).alloc (Obj.cells #[.int .i64 b.pc, .int .i64 b.len, vb, .int .i64 b.fin, .int .i64 b.x, .int .i64 b.y, .int .i64 b.k] 25)).alloc (Obj.cells #[.int .i64 o.kind, .int .i64 o.x, .int .i64 o.y, .int .i64 o.k, .int .i64 o.at_] 58)).alloc (Obj.cells #[.slice none 0 0, .int .i64 0, .slice none 0 0, .int .i64 0, .bool false, .bool false, .int .i64 0, .slice none 0 0, .slice none 0 0, .int .i64 0] 46))).heap.size := by simp
      have hq0 := hide (show (((((w.alloc (Obj.cells #[(.slice (some ⟨g1, o1, none⟩) 4 c1), .int .i64 m.pc, (.slice (some ⟨g2, o2, none⟩) 64 c2), .int .i64 m.save, .bool m.lets, .bool m.waits, .int .i64 m.halt, (.slice A3 m.ins.length c3), (.slice A4 m.outs.length c4), .int .i64 m.count] 46)).alloc (Obj.cells #[.int .i64 b.pc, .int .i64 b.len, vb, .int .i64 b.fin, .int .i64 b.x, .int .i64 b.y, .int .i64 b.k] 25)).alloc (Obj.cells #[.int .i64 o.kind, .int .i64 o.x, .int .i64 o.y, .int .i64 o.k, .int .i64 o.at_] 58)).alloc (Obj.cells #[.slice none 0 0, .int .i64 0, .slice none 0 0, .int .i64 0, .bool false, .bool false, .int .i64 0, .slice none 0 0, .slice none 0 0, .int .i64 0] 46))).heap.size = w.heap.size + 4 by simp)
      have hBm_0 : Bx ((((w.alloc (Obj.cells #[(.slice (some ⟨g1, o1, none⟩) 4 c1), .int .i64 m.pc, (.slice (some ⟨g2, o2, none⟩) 64 c2), .int .i64 m.save, .bool m.lets, .bool m.waits, .int .i64 m.halt, (.slice A3 m.ins.length c3), (.slice A4 m.outs.length c4), .int .i64 m.count] 46)).alloc (Obj.cells #[.int .i64 b.pc, .int .i64 b.len, vb, .int .i64 b.fin, .int .i64 b.x, .int .i64 b.y, .int .i64 b.k] 25)).alloc (Obj.cells #[.int .i64 o.kind, .int .i64 o.x, .int .i64 o.y, .int .i64 o.k, .int .i64 o.at_] 58)).alloc (Obj.cells #[.slice none 0 0, .int .i64 0, .slice none 0 0, .int .i64 0, .bool false, .bool false, .int .i64 0, .slice none 0 0, .slice none 0 0, .int .i64 0] 46)) (w.heap.size) [(.slice (some ⟨g1, o1, none⟩) 4 c1), .int .i64 m.pc, (.slice (some ⟨g2, o2, none⟩) 64 c2), .int .i64 m.save, .bool m.lets, .bool m.waits, .int .i64 m.halt, (.slice A3 m.ins.length c3), (.slice A4 m.outs.length c4), .int .i64 m.count] := (by have := (Bx.alloc (Bx.alloc (Bx.alloc (Bx.new w #[(.slice (some ⟨g1, o1, none⟩) 4 c1), .int .i64 m.pc, (.slice (some ⟨g2, o2, none⟩) 64 c2), .int .i64 m.save, .bool m.lets, .bool m.waits, .int .i64 m.halt, (.slice A3 m.ins.length c3), (.slice A4 m.outs.length c4), .int .i64 m.count] 46) (by simp) #[.int .i64 b.pc, .int .i64 b.len, vb, .int .i64 b.fin, .int .i64 b.x, .int .i64 b.y, .int .i64 b.k] 25) (by first | (simp; done) | (simp; omega)) #[.int .i64 o.kind, .int .i64 o.x, .int .i64 o.y, .int .i64 o.k, .int .i64 o.at_] 58) (by first | (simp; done) | (simp; omega)) #[.slice none 0 0, .int .i64 0, .slice none 0 0, .int .i64 0, .bool false, .bool false, .int .i64 0, .slice none 0 0, .slice none 0 0, .int .i64 0] 46); simpa using this)
      have hFm_0 : ∀ oo, (((((w.alloc (Obj.cells #[(.slice (some ⟨g1, o1, none⟩) 4 c1), .int .i64 m.pc, (.slice (some ⟨g2, o2, none⟩) 64 c2), .int .i64 m.save, .bool m.lets, .bool m.waits, .int .i64 m.halt, (.slice A3 m.ins.length c3), (.slice A4 m.outs.length c4), .int .i64 m.count] 46)).alloc (Obj.cells #[.int .i64 b.pc, .int .i64 b.len, vb, .int .i64 b.fin, .int .i64 b.x, .int .i64 b.y, .int .i64 b.k] 25)).alloc (Obj.cells #[.int .i64 o.kind, .int .i64 o.x, .int .i64 o.y, .int .i64 o.k, .int .i64 o.at_] 58)).alloc (Obj.cells #[.slice none 0 0, .int .i64 0, .slice none 0 0, .int .i64 0, .bool false, .bool false, .int .i64 0, .slice none 0 0, .slice none 0 0, .int .i64 0] 46))).frozen? ⟨w.heap.size, oo, none⟩ = false := (fz_alloc (fz_alloc (fz_alloc (fz_new w #[(.slice (some ⟨g1, o1, none⟩) 4 c1), .int .i64 m.pc, (.slice (some ⟨g2, o2, none⟩) 64 c2), .int .i64 m.save, .bool m.lets, .bool m.waits, .int .i64 m.halt, (.slice A3 m.ins.length c3), (.slice A4 m.outs.length c4), .int .i64 m.count] 46 (by first | rfl | (simp; done))) (by first | (simp; done) | (simp; omega)) (Obj.cells #[.int .i64 b.pc, .int .i64 b.len, vb, .int .i64 b.fin, .int .i64 b.x, .int .i64 b.y, .int .i64 b.k] 25)) (by first | (simp; done) | (simp; omega)) (Obj.cells #[.int .i64 o.kind, .int .i64 o.x, .int .i64 o.y, .int .i64 o.k, .int .i64 o.at_] 58)) (by first | (simp; done) | (simp; omega)) (Obj.cells #[.slice none 0 0, .int .i64 0, .slice none 0 0, .int .i64 0, .bool false, .bool false, .int .i64 0, .slice none 0 0, .slice none 0 0, .int .i64 0] 46))
      have hBb_0 : Bx ((((w.alloc (Obj.cells #[(.slice (some ⟨g1, o1, none⟩) 4 c1), .int .i64 m.pc, (.slice (some ⟨g2, o2, none⟩) 64 c2), .int .i64 m.save, .bool m.lets, .bool m.waits, .int .i64 m.halt, (.slice A3 m.ins.length c3), (.slice A4 m.outs.length c4), .int .i64 m.count] 46)).alloc (Obj.cells #[.int .i64 b.pc, .int .i64 b.len, vb, .int .i64 b.fin, .int .i64 b.x, .int .i64 b.y, .int .i64 b.k] 25)).alloc (Obj.cells #[.int .i64 o.kind, .int .i64 o.x, .int .i64 o.y, .int .i64 o.k, .int .i64 o.at_] 58)).alloc (Obj.cells #[.slice none 0 0, .int .i64 0, .slice none 0 0, .int .i64 0, .bool false, .bool false, .int .i64 0, .slice none 0 0, .slice none 0 0, .int .i64 0] 46)) (w.heap.size + 1) [.int .i64 b.pc, .int .i64 b.len, vb, .int .i64 b.fin, .int .i64 b.x, .int .i64 b.y, .int .i64 b.k] := (by have := (Bx.alloc (Bx.alloc (Bx.new (w.alloc (Obj.cells #[(.slice (some ⟨g1, o1, none⟩) 4 c1), .int .i64 m.pc, (.slice (some ⟨g2, o2, none⟩) 64 c2), .int .i64 m.save, .bool m.lets, .bool m.waits, .int .i64 m.halt, (.slice A3 m.ins.length c3), (.slice A4 m.outs.length c4), .int .i64 m.count] 46)) #[.int .i64 b.pc, .int .i64 b.len, vb, .int .i64 b.fin, .int .i64 b.x, .int .i64 b.y, .int .i64 b.k] 25) (by simp) #[.int .i64 o.kind, .int .i64 o.x, .int .i64 o.y, .int .i64 o.k, .int .i64 o.at_] 58) (by first | (simp; done) | (simp; omega)) #[.slice none 0 0, .int .i64 0, .slice none 0 0, .int .i64 0, .bool false, .bool false, .int .i64 0, .slice none 0 0, .slice none 0 0, .int .i64 0] 46); simpa using this)
      have hFb_0 : ∀ oo, (((((w.alloc (Obj.cells #[(.slice (some ⟨g1, o1, none⟩) 4 c1), .int .i64 m.pc, (.slice (some ⟨g2, o2, none⟩) 64 c2), .int .i64 m.save, .bool m.lets, .bool m.waits, .int .i64 m.halt, (.slice A3 m.ins.length c3), (.slice A4 m.outs.length c4), .int .i64 m.count] 46)).alloc (Obj.cells #[.int .i64 b.pc, .int .i64 b.len, vb, .int .i64 b.fin, .int .i64 b.x, .int .i64 b.y, .int .i64 b.k] 25)).alloc (Obj.cells #[.int .i64 o.kind, .int .i64 o.x, .int .i64 o.y, .int .i64 o.k, .int .i64 o.at_] 58)).alloc (Obj.cells #[.slice none 0 0, .int .i64 0, .slice none 0 0, .int .i64 0, .bool false, .bool false, .int .i64 0, .slice none 0 0, .slice none 0 0, .int .i64 0] 46))).frozen? ⟨w.heap.size + 1, oo, none⟩ = false := (fz_alloc (fz_alloc (fz_new (w.alloc (Obj.cells #[(.slice (some ⟨g1, o1, none⟩) 4 c1), .int .i64 m.pc, (.slice (some ⟨g2, o2, none⟩) 64 c2), .int .i64 m.save, .bool m.lets, .bool m.waits, .int .i64 m.halt, (.slice A3 m.ins.length c3), (.slice A4 m.outs.length c4), .int .i64 m.count] 46)) #[.int .i64 b.pc, .int .i64 b.len, vb, .int .i64 b.fin, .int .i64 b.x, .int .i64 b.y, .int .i64 b.k] 25 (by first | rfl | (simp; done))) (by first | (simp; done) | (simp; omega)) (Obj.cells #[.int .i64 o.kind, .int .i64 o.x, .int .i64 o.y, .int .i64 o.k, .int .i64 o.at_] 58)) (by first | (simp; done) | (simp; omega)) (Obj.cells #[.slice none 0 0, .int .i64 0, .slice none 0 0, .int .i64 0, .bool false, .bool false, .int .i64 0, .slice none 0 0, .slice none 0 0, .int .i64 0] 46))
      have hBo_0 : Bx ((((w.alloc (Obj.cells #[(.slice (some ⟨g1, o1, none⟩) 4 c1), .int .i64 m.pc, (.slice (some ⟨g2, o2, none⟩) 64 c2), .int .i64 m.save, .bool m.lets, .bool m.waits, .int .i64 m.halt, (.slice A3 m.ins.length c3), (.slice A4 m.outs.length c4), .int .i64 m.count] 46)).alloc (Obj.cells #[.int .i64 b.pc, .int .i64 b.len, vb, .int .i64 b.fin, .int .i64 b.x, .int .i64 b.y, .int .i64 b.k] 25)).alloc (Obj.cells #[.int .i64 o.kind, .int .i64 o.x, .int .i64 o.y, .int .i64 o.k, .int .i64 o.at_] 58)).alloc (Obj.cells #[.slice none 0 0, .int .i64 0, .slice none 0 0, .int .i64 0, .bool false, .bool false, .int .i64 0, .slice none 0 0, .slice none 0 0, .int .i64 0] 46)) (w.heap.size + 1 + 1) [.int .i64 o.kind, .int .i64 o.x, .int .i64 o.y, .int .i64 o.k, .int .i64 o.at_] := (by have := (Bx.alloc (Bx.new ((w.alloc (Obj.cells #[(.slice (some ⟨g1, o1, none⟩) 4 c1), .int .i64 m.pc, (.slice (some ⟨g2, o2, none⟩) 64 c2), .int .i64 m.save, .bool m.lets, .bool m.waits, .int .i64 m.halt, (.slice A3 m.ins.length c3), (.slice A4 m.outs.length c4), .int .i64 m.count] 46)).alloc (Obj.cells #[.int .i64 b.pc, .int .i64 b.len, vb, .int .i64 b.fin, .int .i64 b.x, .int .i64 b.y, .int .i64 b.k] 25)) #[.int .i64 o.kind, .int .i64 o.x, .int .i64 o.y, .int .i64 o.k, .int .i64 o.at_] 58) (by simp) #[.slice none 0 0, .int .i64 0, .slice none 0 0, .int .i64 0, .bool false, .bool false, .int .i64 0, .slice none 0 0, .slice none 0 0, .int .i64 0] 46); simpa using this)
      have hFo_0 : ∀ oo, (((((w.alloc (Obj.cells #[(.slice (some ⟨g1, o1, none⟩) 4 c1), .int .i64 m.pc, (.slice (some ⟨g2, o2, none⟩) 64 c2), .int .i64 m.save, .bool m.lets, .bool m.waits, .int .i64 m.halt, (.slice A3 m.ins.length c3), (.slice A4 m.outs.length c4), .int .i64 m.count] 46)).alloc (Obj.cells #[.int .i64 b.pc, .int .i64 b.len, vb, .int .i64 b.fin, .int .i64 b.x, .int .i64 b.y, .int .i64 b.k] 25)).alloc (Obj.cells #[.int .i64 o.kind, .int .i64 o.x, .int .i64 o.y, .int .i64 o.k, .int .i64 o.at_] 58)).alloc (Obj.cells #[.slice none 0 0, .int .i64 0, .slice none 0 0, .int .i64 0, .bool false, .bool false, .int .i64 0, .slice none 0 0, .slice none 0 0, .int .i64 0] 46))).frozen? ⟨w.heap.size + 1 + 1, oo, none⟩ = false := (fz_alloc (fz_new ((w.alloc (Obj.cells #[(.slice (some ⟨g1, o1, none⟩) 4 c1), .int .i64 m.pc, (.slice (some ⟨g2, o2, none⟩) 64 c2), .int .i64 m.save, .bool m.lets, .bool m.waits, .int .i64 m.halt, (.slice A3 m.ins.length c3), (.slice A4 m.outs.length c4), .int .i64 m.count] 46)).alloc (Obj.cells #[.int .i64 b.pc, .int .i64 b.len, vb, .int .i64 b.fin, .int .i64 b.x, .int .i64 b.y, .int .i64 b.k] 25)) #[.int .i64 o.kind, .int .i64 o.x, .int .i64 o.y, .int .i64 o.k, .int .i64 o.at_] 58 (by first | rfl | (simp; done))) (by first | (simp; done) | (simp; omega)) (Obj.cells #[.slice none 0 0, .int .i64 0, .slice none 0 0, .int .i64 0, .bool false, .bool false, .int .i64 0, .slice none 0 0, .slice none 0 0, .int .i64 0] 46))
      have hBres_0 : Bx ((((w.alloc (Obj.cells #[(.slice (some ⟨g1, o1, none⟩) 4 c1), .int .i64 m.pc, (.slice (some ⟨g2, o2, none⟩) 64 c2), .int .i64 m.save, .bool m.lets, .bool m.waits, .int .i64 m.halt, (.slice A3 m.ins.length c3), (.slice A4 m.outs.length c4), .int .i64 m.count] 46)).alloc (Obj.cells #[.int .i64 b.pc, .int .i64 b.len, vb, .int .i64 b.fin, .int .i64 b.x, .int .i64 b.y, .int .i64 b.k] 25)).alloc (Obj.cells #[.int .i64 o.kind, .int .i64 o.x, .int .i64 o.y, .int .i64 o.k, .int .i64 o.at_] 58)).alloc (Obj.cells #[.slice none 0 0, .int .i64 0, .slice none 0 0, .int .i64 0, .bool false, .bool false, .int .i64 0, .slice none 0 0, .slice none 0 0, .int .i64 0] 46)) (w.heap.size + 1 + 1 + 1) [.slice none 0 0, .int .i64 0, .slice none 0 0, .int .i64 0, .bool false, .bool false, .int .i64 0, .slice none 0 0, .slice none 0 0, .int .i64 0] := (by have := (Bx.new (((w.alloc (Obj.cells #[(.slice (some ⟨g1, o1, none⟩) 4 c1), .int .i64 m.pc, (.slice (some ⟨g2, o2, none⟩) 64 c2), .int .i64 m.save, .bool m.lets, .bool m.waits, .int .i64 m.halt, (.slice A3 m.ins.length c3), (.slice A4 m.outs.length c4), .int .i64 m.count] 46)).alloc (Obj.cells #[.int .i64 b.pc, .int .i64 b.len, vb, .int .i64 b.fin, .int .i64 b.x, .int .i64 b.y, .int .i64 b.k] 25)).alloc (Obj.cells #[.int .i64 o.kind, .int .i64 o.x, .int .i64 o.y, .int .i64 o.k, .int .i64 o.at_] 58)) #[.slice none 0 0, .int .i64 0, .slice none 0 0, .int .i64 0, .bool false, .bool false, .int .i64 0, .slice none 0 0, .slice none 0 0, .int .i64 0] 46); simpa using this)
      have hFres_0 : ∀ oo, (((((w.alloc (Obj.cells #[(.slice (some ⟨g1, o1, none⟩) 4 c1), .int .i64 m.pc, (.slice (some ⟨g2, o2, none⟩) 64 c2), .int .i64 m.save, .bool m.lets, .bool m.waits, .int .i64 m.halt, (.slice A3 m.ins.length c3), (.slice A4 m.outs.length c4), .int .i64 m.count] 46)).alloc (Obj.cells #[.int .i64 b.pc, .int .i64 b.len, vb, .int .i64 b.fin, .int .i64 b.x, .int .i64 b.y, .int .i64 b.k] 25)).alloc (Obj.cells #[.int .i64 o.kind, .int .i64 o.x, .int .i64 o.y, .int .i64 o.k, .int .i64 o.at_] 58)).alloc (Obj.cells #[.slice none 0 0, .int .i64 0, .slice none 0 0, .int .i64 0, .bool false, .bool false, .int .i64 0, .slice none 0 0, .slice none 0 0, .int .i64 0] 46))).frozen? ⟨w.heap.size + 1 + 1 + 1, oo, none⟩ = false := (fz_new (((w.alloc (Obj.cells #[(.slice (some ⟨g1, o1, none⟩) 4 c1), .int .i64 m.pc, (.slice (some ⟨g2, o2, none⟩) 64 c2), .int .i64 m.save, .bool m.lets, .bool m.waits, .int .i64 m.halt, (.slice A3 m.ins.length c3), (.slice A4 m.outs.length c4), .int .i64 m.count] 46)).alloc (Obj.cells #[.int .i64 b.pc, .int .i64 b.len, vb, .int .i64 b.fin, .int .i64 b.x, .int .i64 b.y, .int .i64 b.k] 25)).alloc (Obj.cells #[.int .i64 o.kind, .int .i64 o.x, .int .i64 o.y, .int .i64 o.k, .int .i64 o.at_] 58)) #[.slice none 0 0, .int .i64 0, .slice none 0 0, .int .i64 0, .bool false, .bool false, .int .i64 0, .slice none 0 0, .slice none 0 0, .int .i64 0] 46 (by first | rfl | (simp; done)))
      generalize ((((w.alloc (Obj.cells #[(.slice (some ⟨g1, o1, none⟩) 4 c1), .int .i64 m.pc, (.slice (some ⟨g2, o2, none⟩) 64 c2), .int .i64 m.save, .bool m.lets, .bool m.waits, .int .i64 m.halt, (.slice A3 m.ins.length c3), (.slice A4 m.outs.length c4), .int .i64 m.count] 46)).alloc (Obj.cells #[.int .i64 b.pc, .int .i64 b.len, vb, .int .i64 b.fin, .int .i64 b.x, .int .i64 b.y, .int .i64 b.k] 25)).alloc (Obj.cells #[.int .i64 o.kind, .int .i64 o.x, .int .i64 o.y, .int .i64 o.k, .int .i64 o.at_] 58)).alloc (Obj.cells #[.slice none 0 0, .int .i64 0, .slice none 0 0, .int .i64 0, .bool false, .bool false, .int .i64 0, .slice none 0 0, .slice none 0 0, .int .i64 0] 46)) = w0 at *
      have ht0 : Turn (mfoot g1 g2 (.slice A4 m.outs.length c4)) w w0 := Turn.of_ext he0 _
      have hM0 : Mach 3 lo ((w.heap.size) :: (w.heap.size + 1) :: (w.heap.size + 1 + 1) :: (w.heap.size + 1 + 1 + 1) :: X) w0 g1 o1 c1 g2 o2 c2 (.slice A3 m.ins.length c3) (.slice A4 m.outs.length c4) m := hM.addXs he0 [w.heap.size, w.heap.size + 1, w.heap.size + 1 + 1, w.heap.size + 1 + 1 + 1] (by intro b hb; simp at hb; omega)
      have yg1 : g1 < w0.heap.size := by omega
      have yg2 : g2 < w0.heap.size := by omega
      have fr2 := hM0.fz2
      have rQ := hM0.memAt hQ6
      have ym : w.heap.size < w0.heap.size := by omega
      have xm0 := hBm_0 0 _ rfl
      have xm1 := hBm_0 1 _ rfl
      have xm2 := hBm_0 2 _ rfl
      have xm3 := hBm_0 3 _ rfl
      have xm4 := hBm_0 4 _ rfl
      have xm5 := hBm_0 5 _ rfl
      have xm6 := hBm_0 6 _ rfl
      have xm7 := hBm_0 7 _ rfl
      have xm8 := hBm_0 8 _ rfl
      have xm9 := hBm_0 9 _ rfl
      have fm := hFm_0
      have yb : w.heap.size + 1 < w0.heap.size := by omega
      have xb0 := hBb_0 0 _ rfl
      have xb1 := hBb_0 1 _ rfl
      have xb2 := hBb_0 2 _ rfl
      have xb3 := hBb_0 3 _ rfl
      have xb4 := hBb_0 4 _ rfl
      have xb5 := hBb_0 5 _ rfl
      have xb6 := hBb_0 6 _ rfl
      have fb := hFb_0
      have yo : w.heap.size + 1 + 1 < w0.heap.size := by omega
      have xo0 := hBo_0 0 _ rfl
      have xo1 := hBo_0 1 _ rfl
      have xo2 := hBo_0 2 _ rfl
      have xo3 := hBo_0 3 _ rfl
      have xo4 := hBo_0 4 _ rfl
      have fo := hFo_0
      have yres : w.heap.size + 1 + 1 + 1 < w0.heap.size := by omega
      have xres0 := hBres_0 0 _ rfl
      have xres1 := hBres_0 1 _ rfl
      have xres2 := hBres_0 2 _ rfl
      have xres3 := hBres_0 3 _ rfl
      have xres4 := hBres_0 4 _ rfl
      have xres5 := hBres_0 5 _ rfl
      have xres6 := hBres_0 6 _ rfl
      have xres7 := hBres_0 7 _ rfl
      have xres8 := hBres_0 8 _ rfl
      have xres9 := hBres_0 9 _ rfl
      have fres := hFres_0
      go_upto_region 16 with fail
      clear xm0 xm1 xm2 xm3 xm4 xm5 xm6 xm7 xm8 xm9 ym
      clear fm
      clear xb0 xb1 xb2 xb3 xb4 xb5 xb6 yb
      clear fb
      clear xo0 xo1 xo2 xo3 xo4 yo
      clear fo
      clear xres0 xres1 xres2 xres3 xres4 xres5 xres6 xres7 xres8 xres9 yres
      clear fres
      clear rQ fr2
      have hM1 := hM0.setMem hQ6 (n := y) ⟨by omega, by omega⟩
      have ht1 : Turn (mfoot g1 g2 (.slice A4 m.outs.length c4)) w (w0.setCell ⟨g2, o2 + q, none⟩ (.int .i64 y)) := ((Turn.hold ht0).set (.inl (by first | (unfold mfoot; simp; done) | (simp; done))) _)
      have hs1 : w.heap.size + 4 ≤ (w0.setCell ⟨g2, o2 + q, none⟩ (.int .i64 y)).heap.size := by simp; omega
      have hBm_1 : Bx (w0.setCell ⟨g2, o2 + q, none⟩ (.int .i64 y)) (w.heap.size) [(.slice (some ⟨g1, o1, none⟩) 4 c1), .int .i64 m.pc, (.slice (some ⟨g2, o2, none⟩) 64 c2), .int .i64 m.save, .bool m.lets, .bool m.waits, .int .i64 m.halt, (.slice A3 m.ins.length c3), (.slice A4 m.outs.length c4), .int .i64 m.count] := Bx.hold hBm_0
      have hFm_1 : ∀ oo, (w0.setCell ⟨g2, o2 + q, none⟩ (.int .i64 y)).frozen? ⟨w.heap.size, oo, none⟩ = false := fz_hold hFm_0
      have hBb_1 : Bx (w0.setCell ⟨g2, o2 + q, none⟩ (.int .i64 y)) (w.heap.size + 1) [.int .i64 b.pc, .int .i64 b.len, vb, .int .i64 b.fin, .int .i64 b.x, .int .i64 b.y, .int .i64 b.k] := Bx.hold hBb_0
      have hFb_1 : ∀ oo, (w0.setCell ⟨g2, o2 + q, none⟩ (.int .i64 y)).frozen? ⟨w.heap.size + 1, oo, none⟩ = false := fz_hold hFb_0
      have hBo_1 : Bx (w0.setCell ⟨g2, o2 + q, none⟩ (.int .i64 y)) (w.heap.size + 1 + 1) [.int .i64 o.kind, .int .i64 o.x, .int .i64 o.y, .int .i64 o.k, .int .i64 o.at_] := Bx.hold hBo_0
      have hFo_1 : ∀ oo, (w0.setCell ⟨g2, o2 + q, none⟩ (.int .i64 y)).frozen? ⟨w.heap.size + 1 + 1, oo, none⟩ = false := fz_hold hFo_0
      have hBres_1 : Bx (w0.setCell ⟨g2, o2 + q, none⟩ (.int .i64 y)) (w.heap.size + 1 + 1 + 1) [.slice none 0 0, .int .i64 0, .slice none 0 0, .int .i64 0, .bool false, .bool false, .int .i64 0, .slice none 0 0, .slice none 0 0, .int .i64 0] := Bx.hold hBres_0
      have hFres_1 : ∀ oo, (w0.setCell ⟨g2, o2 + q, none⟩ (.int .i64 y)).frozen? ⟨w.heap.size + 1 + 1 + 1, oo, none⟩ = false := fz_hold hFres_0
      generalize (w0.setCell ⟨g2, o2 + q, none⟩ (.int .i64 y)) = w1 at *
      clear hBm_0 hFm_0 hBb_0 hFb_0 hBo_0 hFo_0 hBres_0 hFres_0
      have hM1 := hM1.same (m' := (m.setM (q : Int) y)) rfl rfl rfl rfl
      clear hM0
      have ym : w.heap.size < w1.heap.size := by omega
      have xm0 := hBm_1 0 _ rfl
      have xm1 := hBm_1 1 _ rfl
      have xm2 := hBm_1 2 _ rfl
      have xm3 := hBm_1 3 _ rfl
      have xm4 := hBm_1 4 _ rfl
      have xm5 := hBm_1 5 _ rfl
      have xm6 := hBm_1 6 _ rfl
      have xm7 := hBm_1 7 _ rfl
      have xm8 := hBm_1 8 _ rfl
      have xm9 := hBm_1 9 _ rfl
      have fm := hFm_1
      have yb : w.heap.size + 1 < w1.heap.size := by omega
      have xb0 := hBb_1 0 _ rfl
      have xb1 := hBb_1 1 _ rfl
      have xb2 := hBb_1 2 _ rfl
      have xb3 := hBb_1 3 _ rfl
      have xb4 := hBb_1 4 _ rfl
      have xb5 := hBb_1 5 _ rfl
      have xb6 := hBb_1 6 _ rfl
      have fb := hFb_1
      have yo : w.heap.size + 1 + 1 < w1.heap.size := by omega
      have xo0 := hBo_1 0 _ rfl
      have xo1 := hBo_1 1 _ rfl
      have xo2 := hBo_1 2 _ rfl
      have xo3 := hBo_1 3 _ rfl
      have xo4 := hBo_1 4 _ rfl
      have fo := hFo_1
      have yres : w.heap.size + 1 + 1 + 1 < w1.heap.size := by omega
      have xres0 := hBres_1 0 _ rfl
      have xres1 := hBres_1 1 _ rfl
      have xres2 := hBres_1 2 _ rfl
      have xres3 := hBres_1 3 _ rfl
      have xres4 := hBres_1 4 _ rfl
      have xres5 := hBres_1 5 _ rfl
      have xres6 := hBres_1 6 _ rfl
      have xres7 := hBres_1 7 _ rfl
      have xres8 := hBres_1 8 _ rfl
      have xres9 := hBres_1 9 _ rfl
      have fres := hFres_1
      go_wp2_with fail
      refine (l6Over_any b _ (q : Int) o.at_ _ hb1 hb2 hat).mono ?_
      rintro e w2 ⟨rfl, hy⟩
      rw [HQ.out]
      clear xm0 xm1 xm2 xm3 xm4 xm5 xm6 xm7 xm8 xm9 ym
      clear fm
      clear xb0 xb1 xb2 xb3 xb4 xb5 xb6 yb
      clear fb
      clear xo0 xo1 xo2 xo3 xo4 yo
      clear fo
      clear xres0 xres1 xres2 xres3 xres4 xres5 xres6 xres7 xres8 xres9 yres
      clear fres
      have hs2 := hy.size
      try simp at hs2
      have ht2 : Turn (mfoot g1 g2 (.slice A4 m.outs.length c4)) w w2 := (Turn.hold ht1).call hy
      have hBm_2 : Bx w2 (w.heap.size) [(.slice (some ⟨g1, o1, none⟩) 4 c1), .int .i64 m.pc, (.slice (some ⟨g2, o2, none⟩) 64 c2), .int .i64 m.save, .bool m.lets, .bool m.waits, .int .i64 m.halt, (.slice A3 m.ins.length c3), (.slice A4 m.outs.length c4), .int .i64 m.count] := hy.bx (Bx.hold hBm_1) (by first | omega | (simp; done) | (simp; omega))
      have hFm_2 : ∀ oo, w2.frozen? ⟨w.heap.size, oo, none⟩ = false := fun oo => (hy.frozen (by first | omega | (simp; done) | (simp; omega))).trans ((fz_hold hFm_1) oo)
      have hBb_2 : Bx w2 (w.heap.size + 1) [.int .i64 b.pc, .int .i64 b.len, vb, .int .i64 b.fin, .int .i64 b.x, .int .i64 b.y, .int .i64 b.k] := hy.bx (Bx.hold hBb_1) (by first | omega | (simp; done) | (simp; omega))
      have hFb_2 : ∀ oo, w2.frozen? ⟨w.heap.size + 1, oo, none⟩ = false := fun oo => (hy.frozen (by first | omega | (simp; done) | (simp; omega))).trans ((fz_hold hFb_1) oo)
      have hBo_2 : Bx w2 (w.heap.size + 1 + 1) [.int .i64 o.kind, .int .i64 o.x, .int .i64 o.y, .int .i64 o.k, .int .i64 o.at_] := hy.bx (Bx.hold hBo_1) (by first | omega | (simp; done) | (simp; omega))
      have hFo_2 : ∀ oo, w2.frozen? ⟨w.heap.size + 1 + 1, oo, none⟩ = false := fun oo => (hy.frozen (by first | omega | (simp; done) | (simp; omega))).trans ((fz_hold hFo_1) oo)
      have hBres_2 : Bx w2 (w.heap.size + 1 + 1 + 1) [.slice none 0 0, .int .i64 0, .slice none 0 0, .int .i64 0, .bool false, .bool false, .int .i64 0, .slice none 0 0, .slice none 0 0, .int .i64 0] := hy.bx (Bx.hold hBres_1) (by first | omega | (simp; done) | (simp; omega))
      have hFres_2 : ∀ oo, w2.frozen? ⟨w.heap.size + 1 + 1 + 1, oo, none⟩ = false := fun oo => (hy.frozen (by first | omega | (simp; done) | (simp; omega))).trans ((fz_hold hFres_1) oo)
      try clear hBm_1 hFm_1 hBb_1 hFb_1 hBo_1 hFo_1 hBres_1 hFres_1
      have hM2 := hM1.ext hy
      clear hy hM1
      have ym : w.heap.size < w2.heap.size := by omega
      have xm0 := hBm_2 0 _ rfl
      have xm1 := hBm_2 1 _ rfl
      have xm2 := hBm_2 2 _ rfl
      have xm3 := hBm_2 3 _ rfl
      have xm4 := hBm_2 4 _ rfl
      have xm5 := hBm_2 5 _ rfl
      have xm6 := hBm_2 6 _ rfl
      have xm7 := hBm_2 7 _ rfl
      have xm8 := hBm_2 8 _ rfl
      have xm9 := hBm_2 9 _ rfl
      have fm := hFm_2
      have yb : w.heap.size + 1 < w2.heap.size := by omega
      have xb0 := hBb_2 0 _ rfl
      have xb1 := hBb_2 1 _ rfl
      have xb2 := hBb_2 2 _ rfl
      have xb3 := hBb_2 3 _ rfl
      have xb4 := hBb_2 4 _ rfl
      have xb5 := hBb_2 5 _ rfl
      have xb6 := hBb_2 6 _ rfl
      have fb := hFb_2
      have yo : w.heap.size + 1 + 1 < w2.heap.size := by omega
      have xo0 := hBo_2 0 _ rfl
      have xo1 := hBo_2 1 _ rfl
      have xo2 := hBo_2 2 _ rfl
      have xo3 := hBo_2 3 _ rfl
      have xo4 := hBo_2 4 _ rfl
      have fo := hFo_2
      have yres : w.heap.size + 1 + 1 + 1 < w2.heap.size := by omega
      have xres0 := hBres_2 0 _ rfl
      have xres1 := hBres_2 1 _ rfl
      have xres2 := hBres_2 2 _ rfl
      have xres3 := hBres_2 3 _ rfl
      have xres4 := hBres_2 4 _ rfl
      have xres5 := hBres_2 5 _ rfl
      have xres6 := hBres_2 6 _ rfl
      have xres7 := hBres_2 7 _ rfl
      have xres8 := hBres_2 8 _ rfl
      have xres9 := hBres_2 9 _ rfl
      have fres := hFres_2
      go_wp2_with fail
      refine (l6Leave_any (m.setM (q : Int) y) b (o.at_ + 1) 0 hb1 ⟨by omega, by omega⟩ hcc _ _ _ _ _ _ _ _ _ _ _ _ _ _).mono ?_
      rintro e w3 ⟨rfl, hy⟩
      clear xm0 xm1 xm2 xm3 xm4 xm5 xm6 xm7 xm8 xm9 ym
      clear fm
      clear xb0 xb1 xb2 xb3 xb4 xb5 xb6 yb
      clear fb
      clear xo0 xo1 xo2 xo3 xo4 yo
      clear fo
      clear xres0 xres1 xres2 xres3 xres4 xres5 xres6 xres7 xres8 xres9 yres
      clear fres
      have hs3 := hy.size
      try simp at hs3
      have ht3 : Turn (mfoot g1 g2 (.slice A4 m.outs.length c4)) w w3 := (Turn.hold ht2).call hy
      have hBres_3 : Bx w3 (w.heap.size + 1 + 1 + 1) [.slice none 0 0, .int .i64 0, .slice none 0 0, .int .i64 0, .bool false, .bool false, .int .i64 0, .slice none 0 0, .slice none 0 0, .int .i64 0] := hy.bx (Bx.hold hBres_2) (by first | omega | (simp; done) | (simp; omega))
      have hFres_3 : ∀ oo, w3.frozen? ⟨w.heap.size + 1 + 1 + 1, oo, none⟩ = false := fun oo => (hy.frozen (by first | omega | (simp; done) | (simp; omega))).trans ((fz_hold hFres_2) oo)
      try clear hBres_2 hFres_2
      have hM9 := (hM2.ext hy).same (m' := (rLeave b (m.setM (q : Int) y) (o.at_ + 1) 0)) rfl rfl rfl rfl
      clear hy hM2
      have yres : w.heap.size + 1 + 1 + 1 < w3.heap.size := by omega
      have xres0 := hBres_3 0 _ rfl
      have xres1 := hBres_3 1 _ rfl
      have xres2 := hBres_3 2 _ rfl
      have xres3 := hBres_3 3 _ rfl
      have xres4 := hBres_3 4 _ rfl
      have xres5 := hBres_3 5 _ rfl
      have xres6 := hBres_3 6 _ rfl
      have xres7 := hBres_3 7 _ rfl
      have xres8 := hBres_3 8 _ rfl
      have xres9 := hBres_3 9 _ rfl
      have fres := hFres_3
      go_wp2
      refine bodyPost_ret (v := .tuple #[.agg #[(.slice (some ⟨g1, o1, none⟩) 4 c1), .int .i64 ((rLeave b (m.setM (q : Int) y) (o.at_ + 1) 0).pc), (.slice (some ⟨g2, o2, none⟩) 64 c2), .int .i64 ((rLeave b (m.setM (q : Int) y) (o.at_ + 1) 0).save), .bool (rLeave b (m.setM (q : Int) y) (o.at_ + 1) 0).lets, .bool (rLeave b (m.setM (q : Int) y) (o.at_ + 1) 0).waits, .int .i64 ((rLeave b (m.setM (q : Int) y) (o.at_ + 1) 0).halt), (.slice A3 m.ins.length c3), (.slice A4 m.outs.length c4), .int .i64 ((rLeave b (m.setM (q : Int) y) (o.at_ + 1) 0).count)], .int .i64 0, .bool true]) (by simp [results, Try.results56, go_sem, rLeave, MchMach.setM, xres0, xres1, xres2, xres3, xres4, xres5, xres6, xres7, xres8, xres9]) rfl ⟨_, _, by rw [HV.out]; try rfl, by rw [HV.out]; exact Mach.dropX (Mach.dropX (Mach.dropX (Mach.dropX (Mach.hold hM9)))), Turn.hold ht3, fun q hq => .inl hq⟩

end Go.Proofs.Yteaacelfnkiboaa
