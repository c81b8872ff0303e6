/-
  A step of a machine, by value: the reference.
-/
import Derived.Test.YtokibcicoomceaaDoorInsS
import Derived.Test.YtokibcicoomceaaDoorConstW
import Derived.Deep.DeepCutAuto
namespace Go.Proofs.YtokibcicoomceaaDoor
open Go.RowKit

set_option linter.unusedVariables false
set_option linter.unusedSimpArgs false
set_option maxRecDepth 100000

set_option maxHeartbeats 8000000 in
theorem l3Halt_any (m : MchMach) (h : Int) (A1 A2 A3 A4 : Option Addr) (n1 c1 n2 c2 n3 c3 n4 c4 : Nat) (w : World) :
    Calls Tryd.prog 109 #[.agg #[(.slice A1 n1 c1), .int .i64 m.pc, (.slice A2 n2 c2), .int .i64 m.save, .bool m.lets, .bool m.waits, .int .i64 m.halt, (.slice A3 n3 c3), (.slice A4 n4 c4), .int .i64 m.count], .int .i64 h] w fun e w' => e = .returned (.agg #[(.slice A1 n1 c1), .int .i64 (({ m with halt := h } : MchMach).pc), (.slice A2 n2 c2), .int .i64 (({ m with halt := h } : MchMach).save), .bool ({ m with halt := h } : MchMach).lets, .bool ({ m with halt := h } : MchMach).waits, .int .i64 (({ m with halt := h } : MchMach).halt), (.slice A3 n3 c3), (.slice A4 n4 c4), .int .i64 (({ m with halt := h } : MchMach).count)]) ∧ Ext w w' := by
  go_enter Tryd.func109, Tryd.ntmps109
  go_upto_region 1 with fail
  have he0 : Ext w ((w.alloc (Obj.cells #[(.slice A1 n1 c1), .int .i64 m.pc, (.slice A2 n2 c2), .int .i64 m.save, .bool m.lets, .bool m.waits, .int .i64 m.halt, (.slice A3 n3 c3), (.slice A4 n4 c4), .int .i64 m.count] 51)).alloc (Obj.cells #[.slice none 0 0, .int .i64 0, .slice none 0 0, .int .i64 0, .bool false, .bool false, .int .i64 0, .slice none 0 0, .slice none 0 0, .int .i64 0] 51)) := (Ext.auto)
  have hs0 : w.heap.size + 2 ≤ (((w.alloc (Obj.cells #[(.slice A1 n1 c1), .int .i64 m.pc, (.slice A2 n2 c2), .int .i64 m.save, .bool m.lets, .bool m.waits, .int .i64 m.halt, (.slice A3 n3 c3), (.slice A4 n4 c4), .int .i64 m.count] 51)).alloc (Obj.cells #[.slice none 0 0, .int .i64 0, .slice none 0 0, .int .i64 0, .bool false, .bool false, .int .i64 0, .slice none 0 0, .slice none 0 0, .int .i64 0] 51))).heap.size := by simp
  have hq0 := hide (show (((w.alloc (Obj.cells #[(.slice A1 n1 c1), .int .i64 m.pc, (.slice A2 n2 c2), .int .i64 m.save, .bool m.lets, .bool m.waits, .int .i64 m.halt, (.slice A3 n3 c3), (.slice A4 n4 c4), .int .i64 m.count] 51)).alloc (Obj.cells #[.slice none 0 0, .int .i64 0, .slice none 0 0, .int .i64 0, .bool false, .bool false, .int .i64 0, .slice none 0 0, .slice none 0 0, .int .i64 0] 51))).heap.size = w.heap.size + 2 by simp)
  have hBm_0 : Bx ((w.alloc (Obj.cells #[(.slice A1 n1 c1), .int .i64 m.pc, (.slice A2 n2 c2), .int .i64 m.save, .bool m.lets, .bool m.waits, .int .i64 m.halt, (.slice A3 n3 c3), (.slice A4 n4 c4), .int .i64 m.count] 51)).alloc (Obj.cells #[.slice none 0 0, .int .i64 0, .slice none 0 0, .int .i64 0, .bool false, .bool false, .int .i64 0, .slice none 0 0, .slice none 0 0, .int .i64 0] 51)) (w.heap.size) [(.slice A1 n1 c1), .int .i64 m.pc, (.slice A2 n2 c2), .int .i64 m.save, .bool m.lets, .bool m.waits, .int .i64 m.halt, (.slice A3 n3 c3), (.slice A4 n4 c4), .int .i64 m.count] := (by have := (Bx.alloc (Bx.new w #[(.slice A1 n1 c1), .int .i64 m.pc, (.slice A2 n2 c2), .int .i64 m.save, .bool m.lets, .bool m.waits, .int .i64 m.halt, (.slice A3 n3 c3), (.slice A4 n4 c4), .int .i64 m.count] 51) (by simp) #[.slice none 0 0, .int .i64 0, .slice none 0 0, .int .i64 0, .bool false, .bool false, .int .i64 0, .slice none 0 0, .slice none 0 0, .int .i64 0] 51); simpa using this)
  have hFm_0 : ∀ oo, (((w.alloc (Obj.cells #[(.slice A1 n1 c1), .int .i64 m.pc, (.slice A2 n2 c2), .int .i64 m.save, .bool m.lets, .bool m.waits, .int .i64 m.halt, (.slice A3 n3 c3), (.slice A4 n4 c4), .int .i64 m.count] 51)).alloc (Obj.cells #[.slice none 0 0, .int .i64 0, .slice none 0 0, .int .i64 0, .bool false, .bool false, .int .i64 0, .slice none 0 0, .slice none 0 0, .int .i64 0] 51))).frozen? ⟨w.heap.size, oo, none⟩ = false := fun oo => by simp
  have hBres_0 : Bx ((w.alloc (Obj.cells #[(.slice A1 n1 c1), .int .i64 m.pc, (.slice A2 n2 c2), .int .i64 m.save, .bool m.lets, .bool m.waits, .int .i64 m.halt, (.slice A3 n3 c3), (.slice A4 n4 c4), .int .i64 m.count] 51)).alloc (Obj.cells #[.slice none 0 0, .int .i64 0, .slice none 0 0, .int .i64 0, .bool false, .bool false, .int .i64 0, .slice none 0 0, .slice none 0 0, .int .i64 0] 51)) (w.heap.size + 1) [.slice none 0 0, .int .i64 0, .slice none 0 0, .int .i64 0, .bool false, .bool false, .int .i64 0, .slice none 0 0, .slice none 0 0, .int .i64 0] := (by have := (Bx.new (w.alloc (Obj.cells #[(.slice A1 n1 c1), .int .i64 m.pc, (.slice A2 n2 c2), .int .i64 m.save, .bool m.lets, .bool m.waits, .int .i64 m.halt, (.slice A3 n3 c3), (.slice A4 n4 c4), .int .i64 m.count] 51)) #[.slice none 0 0, .int .i64 0, .slice none 0 0, .int .i64 0, .bool false, .bool false, .int .i64 0, .slice none 0 0, .slice none 0 0, .int .i64 0] 51); simpa using this)
  have hFres_0 : ∀ oo, (((w.alloc (Obj.cells #[(.slice A1 n1 c1), .int .i64 m.pc, (.slice A2 n2 c2), .int .i64 m.save, .bool m.lets, .bool m.waits, .int .i64 m.halt, (.slice A3 n3 c3), (.slice A4 n4 c4), .int .i64 m.count] 51)).alloc (Obj.cells #[.slice none 0 0, .int .i64 0, .slice none 0 0, .int .i64 0, .bool false, .bool false, .int .i64 0, .slice none 0 0, .slice none 0 0, .int .i64 0] 51))).frozen? ⟨w.heap.size + 1, oo, none⟩ = false := fun oo => by simp
  generalize ((w.alloc (Obj.cells #[(.slice A1 n1 c1), .int .i64 m.pc, (.slice A2 n2 c2), .int .i64 m.save, .bool m.lets, .bool m.waits, .int .i64 m.halt, (.slice A3 n3 c3), (.slice A4 n4 c4), .int .i64 m.count] 51)).alloc (Obj.cells #[.slice none 0 0, .int .i64 0, .slice none 0 0, .int .i64 0, .bool false, .bool false, .int .i64 0, .slice none 0 0, .slice none 0 0, .int .i64 0] 51)) = w0 at *
  have ym : w.heap.size < w0.heap.size := by omega
  have xm0 := hBm_0 0 _ rfl
  have xm1 := hBm_0 1 _ rfl
  have xm2 := hBm_0 2 _ rfl
  have xm3 := hBm_0 3 _ rfl
  have xm4 := hBm_0 4 _ rfl
  have xm5 := hBm_0 5 _ rfl
  have xm6 := hBm_0 6 _ rfl
  have xm7 := hBm_0 7 _ rfl
  have xm8 := hBm_0 8 _ rfl
  have xm9 := hBm_0 9 _ rfl
  have fm := hFm_0
  have yres : w.heap.size + 1 < w0.heap.size := by omega
  have xres0 := hBres_0 0 _ rfl
  have xres1 := hBres_0 1 _ rfl
  have xres2 := hBres_0 2 _ rfl
  have xres3 := hBres_0 3 _ rfl
  have xres4 := hBres_0 4 _ rfl
  have xres5 := hBres_0 5 _ rfl
  have xres6 := hBres_0 6 _ rfl
  have xres7 := hBres_0 7 _ rfl
  have xres8 := hBres_0 8 _ rfl
  have xres9 := hBres_0 9 _ rfl
  have fres := hFres_0
  go_wp2
  refine bodyPost_ret (v := .agg #[(.slice A1 n1 c1), .int .i64 (({ m with halt := h } : MchMach).pc), (.slice A2 n2 c2), .int .i64 (({ m with halt := h } : MchMach).save), .bool ({ m with halt := h } : MchMach).lets, .bool ({ m with halt := h } : MchMach).waits, .int .i64 (({ m with halt := h } : MchMach).halt), (.slice A3 n3 c3), (.slice A4 n4 c4), .int .i64 (({ m with halt := h } : MchMach).count)]) (by simp [results, Tryd.results109, go_sem, MchMach.next, MchMach.setR, xres0, xres1, xres2, xres3, xres4, xres5, xres6, xres7, xres8, xres9]) rfl ⟨rfl, Ext.hold he0⟩

set_option maxHeartbeats 8000000 in
theorem l3Next_any (m : MchMach) (pc : Int) (h0 : 0 ≤ pc) (h1 : pc ≤ 1000000) (hc0 : 0 ≤ m.count) (hc1 : m.count ≤ 1000000) (A1 A2 A3 A4 : Option Addr) (n1 c1 n2 c2 n3 c3 n4 c4 : Nat) (w : World) :
    Calls Tryd.prog 115 #[.agg #[(.slice A1 n1 c1), .int .i64 m.pc, (.slice A2 n2 c2), .int .i64 m.save, .bool m.lets, .bool m.waits, .int .i64 m.halt, (.slice A3 n3 c3), (.slice A4 n4 c4), .int .i64 m.count], .int .i64 pc] w fun e w' => e = .returned (.agg #[(.slice A1 n1 c1), .int .i64 ((m.next pc).pc), (.slice A2 n2 c2), .int .i64 ((m.next pc).save), .bool (m.next pc).lets, .bool (m.next pc).waits, .int .i64 ((m.next pc).halt), (.slice A3 n3 c3), (.slice A4 n4 c4), .int .i64 ((m.next pc).count)]) ∧ Ext w w' := by
  go_enter Tryd.func115, Tryd.ntmps115
  go_upto_region 1 with fail
  have he0 : Ext w ((w.alloc (Obj.cells #[(.slice A1 n1 c1), .int .i64 m.pc, (.slice A2 n2 c2), .int .i64 m.save, .bool m.lets, .bool m.waits, .int .i64 m.halt, (.slice A3 n3 c3), (.slice A4 n4 c4), .int .i64 m.count] 51)).alloc (Obj.cells #[.slice none 0 0, .int .i64 0, .slice none 0 0, .int .i64 0, .bool false, .bool false, .int .i64 0, .slice none 0 0, .slice none 0 0, .int .i64 0] 51)) := (Ext.auto)
  have hs0 : w.heap.size + 2 ≤ (((w.alloc (Obj.cells #[(.slice A1 n1 c1), .int .i64 m.pc, (.slice A2 n2 c2), .int .i64 m.save, .bool m.lets, .bool m.waits, .int .i64 m.halt, (.slice A3 n3 c3), (.slice A4 n4 c4), .int .i64 m.count] 51)).alloc (Obj.cells #[.slice none 0 0, .int .i64 0, .slice none 0 0, .int .i64 0, .bool false, .bool false, .int .i64 0, .slice none 0 0, .slice none 0 0, .int .i64 0] 51))).heap.size := by simp
  have hq0 := hide (show (((w.alloc (Obj.cells #[(.slice A1 n1 c1), .int .i64 m.pc, (.slice A2 n2 c2), .int .i64 m.save, .bool m.lets, .bool m.waits, .int .i64 m.halt, (.slice A3 n3 c3), (.slice A4 n4 c4), .int .i64 m.count] 51)).alloc (Obj.cells #[.slice none 0 0, .int .i64 0, .slice none 0 0, .int .i64 0, .bool false, .bool false, .int .i64 0, .slice none 0 0, .slice none 0 0, .int .i64 0] 51))).heap.size = w.heap.size + 2 by simp)
  have hBm_0 : Bx ((w.alloc (Obj.cells #[(.slice A1 n1 c1), .int .i64 m.pc, (.slice A2 n2 c2), .int .i64 m.save, .bool m.lets, .bool m.waits, .int .i64 m.halt, (.slice A3 n3 c3), (.slice A4 n4 c4), .int .i64 m.count] 51)).alloc (Obj.cells #[.slice none 0 0, .int .i64 0, .slice none 0 0, .int .i64 0, .bool false, .bool false, .int .i64 0, .slice none 0 0, .slice none 0 0, .int .i64 0] 51)) (w.heap.size) [(.slice A1 n1 c1), .int .i64 m.pc, (.slice A2 n2 c2), .int .i64 m.save, .bool m.lets, .bool m.waits, .int .i64 m.halt, (.slice A3 n3 c3), (.slice A4 n4 c4), .int .i64 m.count] := (by have := (Bx.alloc (Bx.new w #[(.slice A1 n1 c1), .int .i64 m.pc, (.slice A2 n2 c2), .int .i64 m.save, .bool m.lets, .bool m.waits, .int .i64 m.halt, (.slice A3 n3 c3), (.slice A4 n4 c4), .int .i64 m.count] 51) (by simp) #[.slice none 0 0, .int .i64 0, .slice none 0 0, .int .i64 0, .bool false, .bool false, .int .i64 0, .slice none 0 0, .slice none 0 0, .int .i64 0] 51); simpa using this)
  have hFm_0 : ∀ oo, (((w.alloc (Obj.cells #[(.slice A1 n1 c1), .int .i64 m.pc, (.slice A2 n2 c2), .int .i64 m.save, .bool m.lets, .bool m.waits, .int .i64 m.halt, (.slice A3 n3 c3), (.slice A4 n4 c4), .int .i64 m.count] 51)).alloc (Obj.cells #[.slice none 0 0, .int .i64 0, .slice none 0 0, .int .i64 0, .bool false, .bool false, .int .i64 0, .slice none 0 0, .slice none 0 0, .int .i64 0] 51))).frozen? ⟨w.heap.size, oo, none⟩ = false := fun oo => by simp
  have hBres_0 : Bx ((w.alloc (Obj.cells #[(.slice A1 n1 c1), .int .i64 m.pc, (.slice A2 n2 c2), .int .i64 m.save, .bool m.lets, .bool m.waits, .int .i64 m.halt, (.slice A3 n3 c3), (.slice A4 n4 c4), .int .i64 m.count] 51)).alloc (Obj.cells #[.slice none 0 0, .int .i64 0, .slice none 0 0, .int .i64 0, .bool false, .bool false, .int .i64 0, .slice none 0 0, .slice none 0 0, .int .i64 0] 51)) (w.heap.size + 1) [.slice none 0 0, .int .i64 0, .slice none 0 0, .int .i64 0, .bool false, .bool false, .int .i64 0, .slice none 0 0, .slice none 0 0, .int .i64 0] := (by have := (Bx.new (w.alloc (Obj.cells #[(.slice A1 n1 c1), .int .i64 m.pc, (.slice A2 n2 c2), .int .i64 m.save, .bool m.lets, .bool m.waits, .int .i64 m.halt, (.slice A3 n3 c3), (.slice A4 n4 c4), .int .i64 m.count] 51)) #[.slice none 0 0, .int .i64 0, .slice none 0 0, .int .i64 0, .bool false, .bool false, .int .i64 0, .slice none 0 0, .slice none 0 0, .int .i64 0] 51); simpa using this)
  have hFres_0 : ∀ oo, (((w.alloc (Obj.cells #[(.slice A1 n1 c1), .int .i64 m.pc, (.slice A2 n2 c2), .int .i64 m.save, .bool m.lets, .bool m.waits, .int .i64 m.halt, (.slice A3 n3 c3), (.slice A4 n4 c4), .int .i64 m.count] 51)).alloc (Obj.cells #[.slice none 0 0, .int .i64 0, .slice none 0 0, .int .i64 0, .bool false, .bool false, .int .i64 0, .slice none 0 0, .slice none 0 0, .int .i64 0] 51))).frozen? ⟨w.heap.size + 1, oo, none⟩ = false := fun oo => by simp
  generalize ((w.alloc (Obj.cells #[(.slice A1 n1 c1), .int .i64 m.pc, (.slice A2 n2 c2), .int .i64 m.save, .bool m.lets, .bool m.waits, .int .i64 m.halt, (.slice A3 n3 c3), (.slice A4 n4 c4), .int .i64 m.count] 51)).alloc (Obj.cells #[.slice none 0 0, .int .i64 0, .slice none 0 0, .int .i64 0, .bool false, .bool false, .int .i64 0, .slice none 0 0, .slice none 0 0, .int .i64 0] 51)) = w0 at *
  have ym : w.heap.size < w0.heap.size := by omega
  have xm0 := hBm_0 0 _ rfl
  have xm1 := hBm_0 1 _ rfl
  have xm2 := hBm_0 2 _ rfl
  have xm3 := hBm_0 3 _ rfl
  have xm4 := hBm_0 4 _ rfl
  have xm5 := hBm_0 5 _ rfl
  have xm6 := hBm_0 6 _ rfl
  have xm7 := hBm_0 7 _ rfl
  have xm8 := hBm_0 8 _ rfl
  have xm9 := hBm_0 9 _ rfl
  have fm := hFm_0
  have yres : w.heap.size + 1 < w0.heap.size := by omega
  have xres0 := hBres_0 0 _ rfl
  have xres1 := hBres_0 1 _ rfl
  have xres2 := hBres_0 2 _ rfl
  have xres3 := hBres_0 3 _ rfl
  have xres4 := hBres_0 4 _ rfl
  have xres5 := hBres_0 5 _ rfl
  have xres6 := hBres_0 6 _ rfl
  have xres7 := hBres_0 7 _ rfl
  have xres8 := hBres_0 8 _ rfl
  have xres9 := hBres_0 9 _ rfl
  have fres := hFres_0
  go_wp2_with (go_at_call 118; refine (specWrap_any _ (by omega) (by omega) _).mono ?_; rintro e w' ⟨rfl, rfl⟩)
  refine bodyPost_ret (v := .agg #[(.slice A1 n1 c1), .int .i64 ((m.next pc).pc), (.slice A2 n2 c2), .int .i64 ((m.next pc).save), .bool (m.next pc).lets, .bool (m.next pc).waits, .int .i64 ((m.next pc).halt), (.slice A3 n3 c3), (.slice A4 n4 c4), .int .i64 ((m.next pc).count)]) (by simp [results, Tryd.results115, go_sem, MchMach.next, MchMach.setR, xres0, xres1, xres2, xres3, xres4, xres5, xres6, xres7, xres8, xres9]) rfl ⟨rfl, Ext.hold he0⟩

set_option maxHeartbeats 8000000 in
theorem l3Sample_any (m : MchMach) (irq : Bool) (A1 A2 A3 A4 : Option Addr) (n1 c1 n2 c2 n3 c3 n4 c4 : Nat) (w : World) :
    Calls Tryd.prog 108 #[.agg #[(.slice A1 n1 c1), .int .i64 m.pc, (.slice A2 n2 c2), .int .i64 m.save, .bool m.lets, .bool m.waits, .int .i64 m.halt, (.slice A3 n3 c3), (.slice A4 n4 c4), .int .i64 m.count], .bool irq] w fun e w' => e = .returned (.agg #[(.slice A1 n1 c1), .int .i64 ((mSample m irq).pc), (.slice A2 n2 c2), .int .i64 ((mSample m irq).save), .bool (mSample m irq).lets, .bool (mSample m irq).waits, .int .i64 ((mSample m irq).halt), (.slice A3 n3 c3), (.slice A4 n4 c4), .int .i64 ((mSample m irq).count)]) ∧ Ext w w' := by
  cases hw : m.waits <;> cases irq <;> cases hl : m.lets
  · 
    have HV := hide (show mSample m false = ({ m with waits := false } : MchMach) by unfold mSample; rw [hw, hl]; rfl)
    go_enter Tryd.func108, Tryd.ntmps108
    go_upto_region 1 with fail
    have he0 : Ext w ((w.alloc (Obj.cells #[(.slice A1 n1 c1), .int .i64 m.pc, (.slice A2 n2 c2), .int .i64 m.save, .bool false, .bool false, .int .i64 m.halt, (.slice A3 n3 c3), (.slice A4 n4 c4), .int .i64 m.count] 51)).alloc (Obj.cells #[.slice none 0 0, .int .i64 0, .slice none 0 0, .int .i64 0, .bool false, .bool false, .int .i64 0, .slice none 0 0, .slice none 0 0, .int .i64 0] 51)) := (Ext.auto)
    have hs0 : w.heap.size + 2 ≤ (((w.alloc (Obj.cells #[(.slice A1 n1 c1), .int .i64 m.pc, (.slice A2 n2 c2), .int .i64 m.save, .bool false, .bool false, .int .i64 m.halt, (.slice A3 n3 c3), (.slice A4 n4 c4), .int .i64 m.count] 51)).alloc (Obj.cells #[.slice none 0 0, .int .i64 0, .slice none 0 0, .int .i64 0, .bool false, .bool false, .int .i64 0, .slice none 0 0, .slice none 0 0, .int .i64 0] 51))).heap.size := by simp
    have hq0 := hide (show (((w.alloc (Obj.cells #[(.slice A1 n1 c1), .int .i64 m.pc, (.slice A2 n2 c2), .int .i64 m.save, .bool false, .bool false, .int .i64 m.halt, (.slice A3 n3 c3), (.slice A4 n4 c4), .int .i64 m.count] 51)).alloc (Obj.cells #[.slice none 0 0, .int .i64 0, .slice none 0 0, .int .i64 0, .bool false, .bool false, .int .i64 0, .slice none 0 0, .slice none 0 0, .int .i64 0] 51))).heap.size = w.heap.size + 2 by simp)
    have hBm_0 : Bx ((w.alloc (Obj.cells #[(.slice A1 n1 c1), .int .i64 m.pc, (.slice A2 n2 c2), .int .i64 m.save, .bool false, .bool false, .int .i64 m.halt, (.slice A3 n3 c3), (.slice A4 n4 c4), .int .i64 m.count] 51)).alloc (Obj.cells #[.slice none 0 0, .int .i64 0, .slice none 0 0, .int .i64 0, .bool false, .bool false, .int .i64 0, .slice none 0 0, .slice none 0 0, .int .i64 0] 51)) (w.heap.size) [(.slice A1 n1 c1), .int .i64 m.pc, (.slice A2 n2 c2), .int .i64 m.save, .bool false, .bool false, .int .i64 m.halt, (.slice A3 n3 c3), (.slice A4 n4 c4), .int .i64 m.count] := (by have := (Bx.alloc (Bx.new w #[(.slice A1 n1 c1), .int .i64 m.pc, (.slice A2 n2 c2), .int .i64 m.save, .bool false, .bool false, .int .i64 m.halt, (.slice A3 n3 c3), (.slice A4 n4 c4), .int .i64 m.count] 51) (by simp) #[.slice none 0 0, .int .i64 0, .slice none 0 0, .int .i64 0, .bool false, .bool false, .int .i64 0, .slice none 0 0, .slice none 0 0, .int .i64 0] 51); simpa using this)
    have hFm_0 : ∀ oo, (((w.alloc (Obj.cells #[(.slice A1 n1 c1), .int .i64 m.pc, (.slice A2 n2 c2), .int .i64 m.save, .bool false, .bool false, .int .i64 m.halt, (.slice A3 n3 c3), (.slice A4 n4 c4), .int .i64 m.count] 51)).alloc (Obj.cells #[.slice none 0 0, .int .i64 0, .slice none 0 0, .int .i64 0, .bool false, .bool false, .int .i64 0, .slice none 0 0, .slice none 0 0, .int .i64 0] 51))).frozen? ⟨w.heap.size, oo, none⟩ = false := fun oo => by simp
    have hBres_0 : Bx ((w.alloc (Obj.cells #[(.slice A1 n1 c1), .int .i64 m.pc, (.slice A2 n2 c2), .int .i64 m.save, .bool false, .bool false, .int .i64 m.halt, (.slice A3 n3 c3), (.slice A4 n4 c4), .int .i64 m.count] 51)).alloc (Obj.cells #[.slice none 0 0, .int .i64 0, .slice none 0 0, .int .i64 0, .bool false, .bool false, .int .i64 0, .slice none 0 0, .slice none 0 0, .int .i64 0] 51)) (w.heap.size + 1) [.slice none 0 0, .int .i64 0, .slice none 0 0, .int .i64 0, .bool false, .bool false, .int .i64 0, .slice none 0 0, .slice none 0 0, .int .i64 0] := (by have := (Bx.new (w.alloc (Obj.cells #[(.slice A1 n1 c1), .int .i64 m.pc, (.slice A2 n2 c2), .int .i64 m.save, .bool false, .bool false, .int .i64 m.halt, (.slice A3 n3 c3), (.slice A4 n4 c4), .int .i64 m.count] 51)) #[.slice none 0 0, .int .i64 0, .slice none 0 0, .int .i64 0, .bool false, .bool false, .int .i64 0, .slice none 0 0, .slice none 0 0, .int .i64 0] 51); simpa using this)
    have hFres_0 : ∀ oo, (((w.alloc (Obj.cells #[(.slice A1 n1 c1), .int .i64 m.pc, (.slice A2 n2 c2), .int .i64 m.save, .bool false, .bool false, .int .i64 m.halt, (.slice A3 n3 c3), (.slice A4 n4 c4), .int .i64 m.count] 51)).alloc (Obj.cells #[.slice none 0 0, .int .i64 0, .slice none 0 0, .int .i64 0, .bool false, .bool false, .int .i64 0, .slice none 0 0, .slice none 0 0, .int .i64 0] 51))).frozen? ⟨w.heap.size + 1, oo, none⟩ = false := fun oo => by simp
    generalize ((w.alloc (Obj.cells #[(.slice A1 n1 c1), .int .i64 m.pc, (.slice A2 n2 c2), .int .i64 m.save, .bool false, .bool false, .int .i64 m.halt, (.slice A3 n3 c3), (.slice A4 n4 c4), .int .i64 m.count] 51)).alloc (Obj.cells #[.slice none 0 0, .int .i64 0, .slice none 0 0, .int .i64 0, .bool false, .bool false, .int .i64 0, .slice none 0 0, .slice none 0 0, .int .i64 0] 51)) = w0 at *
    have ym : w.heap.size < w0.heap.size := by omega
    have xm0 := hBm_0 0 _ rfl
    have xm1 := hBm_0 1 _ rfl
    have xm2 := hBm_0 2 _ rfl
    have xm3 := hBm_0 3 _ rfl
    have xm4 := hBm_0 4 _ rfl
    have xm5 := hBm_0 5 _ rfl
    have xm6 := hBm_0 6 _ rfl
    have xm7 := hBm_0 7 _ rfl
    have xm8 := hBm_0 8 _ rfl
    have xm9 := hBm_0 9 _ rfl
    have fm := hFm_0
    have yres : w.heap.size + 1 < w0.heap.size := by omega
    have xres0 := hBres_0 0 _ rfl
    have xres1 := hBres_0 1 _ rfl
    have xres2 := hBres_0 2 _ rfl
    have xres3 := hBres_0 3 _ rfl
    have xres4 := hBres_0 4 _ rfl
    have xres5 := hBres_0 5 _ rfl
    have xres6 := hBres_0 6 _ rfl
    have xres7 := hBres_0 7 _ rfl
    have xres8 := hBres_0 8 _ rfl
    have xres9 := hBres_0 9 _ rfl
    have fres := hFres_0
    go_wp2
    refine bodyPost_ret (v := .agg #[(.slice A1 n1 c1), .int .i64 m.pc, (.slice A2 n2 c2), .int .i64 m.save, .bool false, .bool false, .int .i64 m.halt, (.slice A3 n3 c3), (.slice A4 n4 c4), .int .i64 m.count]) (by simp [results, Tryd.results108, go_sem, xres0, xres1, xres2, xres3, xres4, xres5, xres6, xres7, xres8, xres9]) rfl ⟨?_, Ext.hold he0⟩
    rw [HV.out]
    (try simp only [hl])
  · 
    have HV := hide (show mSample m false = ({ m with waits := false } : MchMach) by unfold mSample; rw [hw, hl]; rfl)
    go_enter Tryd.func108, Tryd.ntmps108
    go_upto_region 1 with fail
    have he0 : Ext w ((w.alloc (Obj.cells #[(.slice A1 n1 c1), .int .i64 m.pc, (.slice A2 n2 c2), .int .i64 m.save, .bool true, .bool false, .int .i64 m.halt, (.slice A3 n3 c3), (.slice A4 n4 c4), .int .i64 m.count] 51)).alloc (Obj.cells #[.slice none 0 0, .int .i64 0, .slice none 0 0, .int .i64 0, .bool false, .bool false, .int .i64 0, .slice none 0 0, .slice none 0 0, .int .i64 0] 51)) := (Ext.auto)
    have hs0 : w.heap.size + 2 ≤ (((w.alloc (Obj.cells #[(.slice A1 n1 c1), .int .i64 m.pc, (.slice A2 n2 c2), .int .i64 m.save, .bool true, .bool false, .int .i64 m.halt, (.slice A3 n3 c3), (.slice A4 n4 c4), .int .i64 m.count] 51)).alloc (Obj.cells #[.slice none 0 0, .int .i64 0, .slice none 0 0, .int .i64 0, .bool false, .bool false, .int .i64 0, .slice none 0 0, .slice none 0 0, .int .i64 0] 51))).heap.size := by simp
    have hq0 := hide (show (((w.alloc (Obj.cells #[(.slice A1 n1 c1), .int .i64 m.pc, (.slice A2 n2 c2), .int .i64 m.save, .bool true, .bool false, .int .i64 m.halt, (.slice A3 n3 c3), (.slice A4 n4 c4), .int .i64 m.count] 51)).alloc (Obj.cells #[.slice none 0 0, .int .i64 0, .slice none 0 0, .int .i64 0, .bool false, .bool false, .int .i64 0, .slice none 0 0, .slice none 0 0, .int .i64 0] 51))).heap.size = w.heap.size + 2 by simp)
    have hBm_0 : Bx ((w.alloc (Obj.cells #[(.slice A1 n1 c1), .int .i64 m.pc, (.slice A2 n2 c2), .int .i64 m.save, .bool true, .bool false, .int .i64 m.halt, (.slice A3 n3 c3), (.slice A4 n4 c4), .int .i64 m.count] 51)).alloc (Obj.cells #[.slice none 0 0, .int .i64 0, .slice none 0 0, .int .i64 0, .bool false, .bool false, .int .i64 0, .slice none 0 0, .slice none 0 0, .int .i64 0] 51)) (w.heap.size) [(.slice A1 n1 c1), .int .i64 m.pc, (.slice A2 n2 c2), .int .i64 m.save, .bool true, .bool false, .int .i64 m.halt, (.slice A3 n3 c3), (.slice A4 n4 c4), .int .i64 m.count] := (by have := (Bx.alloc (Bx.new w #[(.slice A1 n1 c1), .int .i64 m.pc, (.slice A2 n2 c2), .int .i64 m.save, .bool true, .bool false, .int .i64 m.halt, (.slice A3 n3 c3), (.slice A4 n4 c4), .int .i64 m.count] 51) (by simp) #[.slice none 0 0, .int .i64 0, .slice none 0 0, .int .i64 0, .bool false, .bool false, .int .i64 0, .slice none 0 0, .slice none 0 0, .int .i64 0] 51); simpa using this)
    have hFm_0 : ∀ oo, (((w.alloc (Obj.cells #[(.slice A1 n1 c1), .int .i64 m.pc, (.slice A2 n2 c2), .int .i64 m.save, .bool true, .bool false, .int .i64 m.halt, (.slice A3 n3 c3), (.slice A4 n4 c4), .int .i64 m.count] 51)).alloc (Obj.cells #[.slice none 0 0, .int .i64 0, .slice none 0 0, .int .i64 0, .bool false, .bool false, .int .i64 0, .slice none 0 0, .slice none 0 0, .int .i64 0] 51))).frozen? ⟨w.heap.size, oo, none⟩ = false := fun oo => by simp
    have hBres_0 : Bx ((w.alloc (Obj.cells #[(.slice A1 n1 c1), .int .i64 m.pc, (.slice A2 n2 c2), .int .i64 m.save, .bool true, .bool false, .int .i64 m.halt, (.slice A3 n3 c3), (.slice A4 n4 c4), .int .i64 m.count] 51)).alloc (Obj.cells #[.slice none 0 0, .int .i64 0, .slice none 0 0, .int .i64 0, .bool false, .bool false, .int .i64 0, .slice none 0 0, .slice none 0 0, .int .i64 0] 51)) (w.heap.size + 1) [.slice none 0 0, .int .i64 0, .slice none 0 0, .int .i64 0, .bool false, .bool false, .int .i64 0, .slice none 0 0, .slice none 0 0, .int .i64 0] := (by have := (Bx.new (w.alloc (Obj.cells #[(.slice A1 n1 c1), .int .i64 m.pc, (.slice A2 n2 c2), .int .i64 m.save, .bool true, .bool false, .int .i64 m.halt, (.slice A3 n3 c3), (.slice A4 n4 c4), .int .i64 m.count] 51)) #[.slice none 0 0, .int .i64 0, .slice none 0 0, .int .i64 0, .bool false, .bool false, .int .i64 0, .slice none 0 0, .slice none 0 0, .int .i64 0] 51); simpa using this)
    have hFres_0 : ∀ oo, (((w.alloc (Obj.cells #[(.slice A1 n1 c1), .int .i64 m.pc, (.slice A2 n2 c2), .int .i64 m.save, .bool true, .bool false, .int .i64 m.halt, (.slice A3 n3 c3), (.slice A4 n4 c4), .int .i64 m.count] 51)).alloc (Obj.cells #[.slice none 0 0, .int .i64 0, .slice none 0 0, .int .i64 0, .bool false, .bool false, .int .i64 0, .slice none 0 0, .slice none 0 0, .int .i64 0] 51))).frozen? ⟨w.heap.size + 1, oo, none⟩ = false := fun oo => by simp
    generalize ((w.alloc (Obj.cells #[(.slice A1 n1 c1), .int .i64 m.pc, (.slice A2 n2 c2), .int .i64 m.save, .bool true, .bool false, .int .i64 m.halt, (.slice A3 n3 c3), (.slice A4 n4 c4), .int .i64 m.count] 51)).alloc (Obj.cells #[.slice none 0 0, .int .i64 0, .slice none 0 0, .int .i64 0, .bool false, .bool false, .int .i64 0, .slice none 0 0, .slice none 0 0, .int .i64 0] 51)) = w0 at *
    have ym : w.heap.size < w0.heap.size := by omega
    have xm0 := hBm_0 0 _ rfl
    have xm1 := hBm_0 1 _ rfl
    have xm2 := hBm_0 2 _ rfl
    have xm3 := hBm_0 3 _ rfl
    have xm4 := hBm_0 4 _ rfl
    have xm5 := hBm_0 5 _ rfl
    have xm6 := hBm_0 6 _ rfl
    have xm7 := hBm_0 7 _ rfl
    have xm8 := hBm_0 8 _ rfl
    have xm9 := hBm_0 9 _ rfl
    have fm := hFm_0
    have yres : w.heap.size + 1 < w0.heap.size := by omega
    have xres0 := hBres_0 0 _ rfl
    have xres1 := hBres_0 1 _ rfl
    have xres2 := hBres_0 2 _ rfl
    have xres3 := hBres_0 3 _ rfl
    have xres4 := hBres_0 4 _ rfl
    have xres5 := hBres_0 5 _ rfl
    have xres6 := hBres_0 6 _ rfl
    have xres7 := hBres_0 7 _ rfl
    have xres8 := hBres_0 8 _ rfl
    have xres9 := hBres_0 9 _ rfl
    have fres := hFres_0
    go_wp2
    refine bodyPost_ret (v := .agg #[(.slice A1 n1 c1), .int .i64 m.pc, (.slice A2 n2 c2), .int .i64 m.save, .bool true, .bool false, .int .i64 m.halt, (.slice A3 n3 c3), (.slice A4 n4 c4), .int .i64 m.count]) (by simp [results, Tryd.results108, go_sem, xres0, xres1, xres2, xres3, xres4, xres5, xres6, xres7, xres8, xres9]) rfl ⟨?_, Ext.hold he0⟩
    rw [HV.out]
    (try simp only [hl])
  · 
    have HV := hide (show mSample m true = ({ m with waits := true } : MchMach) by unfold mSample; rw [hw, hl]; rfl)
    go_enter Tryd.func108, Tryd.ntmps108
    go_upto_region 1 with fail
    have he0 : Ext w ((w.alloc (Obj.cells #[(.slice A1 n1 c1), .int .i64 m.pc, (.slice A2 n2 c2), .int .i64 m.save, .bool false, .bool false, .int .i64 m.halt, (.slice A3 n3 c3), (.slice A4 n4 c4), .int .i64 m.count] 51)).alloc (Obj.cells #[.slice none 0 0, .int .i64 0, .slice none 0 0, .int .i64 0, .bool false, .bool false, .int .i64 0, .slice none 0 0, .slice none 0 0, .int .i64 0] 51)) := (Ext.auto)
    have hs0 : w.heap.size + 2 ≤ (((w.alloc (Obj.cells #[(.slice A1 n1 c1), .int .i64 m.pc, (.slice A2 n2 c2), .int .i64 m.save, .bool false, .bool false, .int .i64 m.halt, (.slice A3 n3 c3), (.slice A4 n4 c4), .int .i64 m.count] 51)).alloc (Obj.cells #[.slice none 0 0, .int .i64 0, .slice none 0 0, .int .i64 0, .bool false, .bool false, .int .i64 0, .slice none 0 0, .slice none 0 0, .int .i64 0] 51))).heap.size := by simp
    have hq0 := hide (show (((w.alloc (Obj.cells #[(.slice A1 n1 c1), .int .i64 m.pc, (.slice A2 n2 c2), .int .i64 m.save, .bool false, .bool false, .int .i64 m.halt, (.slice A3 n3 c3), (.slice A4 n4 c4), .int .i64 m.count] 51)).alloc (Obj.cells #[.slice none 0 0, .int .i64 0, .slice none 0 0, .int .i64 0, .bool false, .bool false, .int .i64 0, .slice none 0 0, .slice none 0 0, .int .i64 0] 51))).heap.size = w.heap.size + 2 by simp)
    have hBm_0 : Bx ((w.alloc (Obj.cells #[(.slice A1 n1 c1), .int .i64 m.pc, (.slice A2 n2 c2), .int .i64 m.save, .bool false, .bool false, .int .i64 m.halt, (.slice A3 n3 c3), (.slice A4 n4 c4), .int .i64 m.count] 51)).alloc (Obj.cells #[.slice none 0 0, .int .i64 0, .slice none 0 0, .int .i64 0, .bool false, .bool false, .int .i64 0, .slice none 0 0, .slice none 0 0, .int .i64 0] 51)) (w.heap.size) [(.slice A1 n1 c1), .int .i64 m.pc, (.slice A2 n2 c2), .int .i64 m.save, .bool false, .bool false, .int .i64 m.halt, (.slice A3 n3 c3), (.slice A4 n4 c4), .int .i64 m.count] := (by have := (Bx.alloc (Bx.new w #[(.slice A1 n1 c1), .int .i64 m.pc, (.slice A2 n2 c2), .int .i64 m.save, .bool false, .bool false, .int .i64 m.halt, (.slice A3 n3 c3), (.slice A4 n4 c4), .int .i64 m.count] 51) (by simp) #[.slice none 0 0, .int .i64 0, .slice none 0 0, .int .i64 0, .bool false, .bool false, .int .i64 0, .slice none 0 0, .slice none 0 0, .int .i64 0] 51); simpa using this)
    have hFm_0 : ∀ oo, (((w.alloc (Obj.cells #[(.slice A1 n1 c1), .int .i64 m.pc, (.slice A2 n2 c2), .int .i64 m.save, .bool false, .bool false, .int .i64 m.halt, (.slice A3 n3 c3), (.slice A4 n4 c4), .int .i64 m.count] 51)).alloc (Obj.cells #[.slice none 0 0, .int .i64 0, .slice none 0 0, .int .i64 0, .bool false, .bool false, .int .i64 0, .slice none 0 0, .slice none 0 0, .int .i64 0] 51))).frozen? ⟨w.heap.size, oo, none⟩ = false := fun oo => by simp
    have hBres_0 : Bx ((w.alloc (Obj.cells #[(.slice A1 n1 c1), .int .i64 m.pc, (.slice A2 n2 c2), .int .i64 m.save, .bool false, .bool false, .int .i64 m.halt, (.slice A3 n3 c3), (.slice A4 n4 c4), .int .i64 m.count] 51)).alloc (Obj.cells #[.slice none 0 0, .int .i64 0, .slice none 0 0, .int .i64 0, .bool false, .bool false, .int .i64 0, .slice none 0 0, .slice none 0 0, .int .i64 0] 51)) (w.heap.size + 1) [.slice none 0 0, .int .i64 0, .slice none 0 0, .int .i64 0, .bool false, .bool false, .int .i64 0, .slice none 0 0, .slice none 0 0, .int .i64 0] := (by have := (Bx.new (w.alloc (Obj.cells #[(.slice A1 n1 c1), .int .i64 m.pc, (.slice A2 n2 c2), .int .i64 m.save, .bool false, .bool false, .int .i64 m.halt, (.slice A3 n3 c3), (.slice A4 n4 c4), .int .i64 m.count] 51)) #[.slice none 0 0, .int .i64 0, .slice none 0 0, .int .i64 0, .bool false, .bool false, .int .i64 0, .slice none 0 0, .slice none 0 0, .int .i64 0] 51); simpa using this)
    have hFres_0 : ∀ oo, (((w.alloc (Obj.cells #[(.slice A1 n1 c1), .int .i64 m.pc, (.slice A2 n2 c2), .int .i64 m.save, .bool false, .bool false, .int .i64 m.halt, (.slice A3 n3 c3), (.slice A4 n4 c4), .int .i64 m.count] 51)).alloc (Obj.cells #[.slice none 0 0, .int .i64 0, .slice none 0 0, .int .i64 0, .bool false, .bool false, .int .i64 0, .slice none 0 0, .slice none 0 0, .int .i64 0] 51))).frozen? ⟨w.heap.size + 1, oo, none⟩ = false := fun oo => by simp
    generalize ((w.alloc (Obj.cells #[(.slice A1 n1 c1), .int .i64 m.pc, (.slice A2 n2 c2), .int .i64 m.save, .bool false, .bool false, .int .i64 m.halt, (.slice A3 n3 c3), (.slice A4 n4 c4), .int .i64 m.count] 51)).alloc (Obj.cells #[.slice none 0 0, .int .i64 0, .slice none 0 0, .int .i64 0, .bool false, .bool false, .int .i64 0, .slice none 0 0, .slice none 0 0, .int .i64 0] 51)) = w0 at *
    have ym : w.heap.size < w0.heap.size := by omega
    have xm0 := hBm_0 0 _ rfl
    have xm1 := hBm_0 1 _ rfl
    have xm2 := hBm_0 2 _ rfl
    have xm3 := hBm_0 3 _ rfl
    have xm4 := hBm_0 4 _ rfl
    have xm5 := hBm_0 5 _ rfl
    have xm6 := hBm_0 6 _ rfl
    have xm7 := hBm_0 7 _ rfl
    have xm8 := hBm_0 8 _ rfl
    have xm9 := hBm_0 9 _ rfl
    have fm := hFm_0
    have yres : w.heap.size + 1 < w0.heap.size := by omega
    have xres0 := hBres_0 0 _ rfl
    have xres1 := hBres_0 1 _ rfl
    have xres2 := hBres_0 2 _ rfl
    have xres3 := hBres_0 3 _ rfl
    have xres4 := hBres_0 4 _ rfl
    have xres5 := hBres_0 5 _ rfl
    have xres6 := hBres_0 6 _ rfl
    have xres7 := hBres_0 7 _ rfl
    have xres8 := hBres_0 8 _ rfl
    have xres9 := hBres_0 9 _ rfl
    have fres := hFres_0
    go_wp2
    refine bodyPost_ret (v := .agg #[(.slice A1 n1 c1), .int .i64 m.pc, (.slice A2 n2 c2), .int .i64 m.save, .bool false, .bool true, .int .i64 m.halt, (.slice A3 n3 c3), (.slice A4 n4 c4), .int .i64 m.count]) (by simp [results, Tryd.results108, go_sem, xres0, xres1, xres2, xres3, xres4, xres5, xres6, xres7, xres8, xres9]) rfl ⟨?_, Ext.hold he0⟩
    rw [HV.out]
    (try simp only [hl])
  · 
    have HV := hide (show mSample m true = ({ m with waits := false, lets := false, save := m.pc, pc := 48 } : MchMach) by unfold mSample; rw [hw, hl]; rfl)
    go_enter Tryd.func108, Tryd.ntmps108
    go_upto_region 1 with fail
    have he0 : Ext w ((w.alloc (Obj.cells #[(.slice A1 n1 c1), .int .i64 m.pc, (.slice A2 n2 c2), .int .i64 m.save, .bool true, .bool false, .int .i64 m.halt, (.slice A3 n3 c3), (.slice A4 n4 c4), .int .i64 m.count] 51)).alloc (Obj.cells #[.slice none 0 0, .int .i64 0, .slice none 0 0, .int .i64 0, .bool false, .bool false, .int .i64 0, .slice none 0 0, .slice none 0 0, .int .i64 0] 51)) := (Ext.auto)
    have hs0 : w.heap.size + 2 ≤ (((w.alloc (Obj.cells #[(.slice A1 n1 c1), .int .i64 m.pc, (.slice A2 n2 c2), .int .i64 m.save, .bool true, .bool false, .int .i64 m.halt, (.slice A3 n3 c3), (.slice A4 n4 c4), .int .i64 m.count] 51)).alloc (Obj.cells #[.slice none 0 0, .int .i64 0, .slice none 0 0, .int .i64 0, .bool false, .bool false, .int .i64 0, .slice none 0 0, .slice none 0 0, .int .i64 0] 51))).heap.size := by simp
    have hq0 := hide (show (((w.alloc (Obj.cells #[(.slice A1 n1 c1), .int .i64 m.pc, (.slice A2 n2 c2), .int .i64 m.save, .bool true, .bool false, .int .i64 m.halt, (.slice A3 n3 c3), (.slice A4 n4 c4), .int .i64 m.count] 51)).alloc (Obj.cells #[.slice none 0 0, .int .i64 0, .slice none 0 0, .int .i64 0, .bool false, .bool false, .int .i64 0, .slice none 0 0, .slice none 0 0, .int .i64 0] 51))).heap.size = w.heap.size + 2 by simp)
    have hBm_0 : Bx ((w.alloc (Obj.cells #[(.slice A1 n1 c1), .int .i64 m.pc, (.slice A2 n2 c2), .int .i64 m.save, .bool true, .bool false, .int .i64 m.halt, (.slice A3 n3 c3), (.slice A4 n4 c4), .int .i64 m.count] 51)).alloc (Obj.cells #[.slice none 0 0, .int .i64 0, .slice none 0 0, .int .i64 0, .bool false, .bool false, .int .i64 0, .slice none 0 0, .slice none 0 0, .int .i64 0] 51)) (w.heap.size) [(.slice A1 n1 c1), .int .i64 m.pc, (.slice A2 n2 c2), .int .i64 m.save, .bool true, .bool false, .int .i64 m.halt, (.slice A3 n3 c3), (.slice A4 n4 c4), .int .i64 m.count] := (by have := (Bx.alloc (Bx.new w #[(.slice A1 n1 c1), .int .i64 m.pc, (.slice A2 n2 c2), .int .i64 m.save, .bool true, .bool false, .int .i64 m.halt, (.slice A3 n3 c3), (.slice A4 n4 c4), .int .i64 m.count] 51) (by simp) #[.slice none 0 0, .int .i64 0, .slice none 0 0, .int .i64 0, .bool false, .bool false, .int .i64 0, .slice none 0 0, .slice none 0 0, .int .i64 0] 51); simpa using this)
    have hFm_0 : ∀ oo, (((w.alloc (Obj.cells #[(.slice A1 n1 c1), .int .i64 m.pc, (.slice A2 n2 c2), .int .i64 m.save, .bool true, .bool false, .int .i64 m.halt, (.slice A3 n3 c3), (.slice A4 n4 c4), .int .i64 m.count] 51)).alloc (Obj.cells #[.slice none 0 0, .int .i64 0, .slice none 0 0, .int .i64 0, .bool false, .bool false, .int .i64 0, .slice none 0 0, .slice none 0 0, .int .i64 0] 51))).frozen? ⟨w.heap.size, oo, none⟩ = false := fun oo => by simp
    have hBres_0 : Bx ((w.alloc (Obj.cells #[(.slice A1 n1 c1), .int .i64 m.pc, (.slice A2 n2 c2), .int .i64 m.save, .bool true, .bool false, .int .i64 m.halt, (.slice A3 n3 c3), (.slice A4 n4 c4), .int .i64 m.count] 51)).alloc (Obj.cells #[.slice none 0 0, .int .i64 0, .slice none 0 0, .int .i64 0, .bool false, .bool false, .int .i64 0, .slice none 0 0, .slice none 0 0, .int .i64 0] 51)) (w.heap.size + 1) [.slice none 0 0, .int .i64 0, .slice none 0 0, .int .i64 0, .bool false, .bool false, .int .i64 0, .slice none 0 0, .slice none 0 0, .int .i64 0] := (by have := (Bx.new (w.alloc (Obj.cells #[(.slice A1 n1 c1), .int .i64 m.pc, (.slice A2 n2 c2), .int .i64 m.save, .bool true, .bool false, .int .i64 m.halt, (.slice A3 n3 c3), (.slice A4 n4 c4), .int .i64 m.count] 51)) #[.slice none 0 0, .int .i64 0, .slice none 0 0, .int .i64 0, .bool false, .bool false, .int .i64 0, .slice none 0 0, .slice none 0 0, .int .i64 0] 51); simpa using this)
    have hFres_0 : ∀ oo, (((w.alloc (Obj.cells #[(.slice A1 n1 c1), .int .i64 m.pc, (.slice A2 n2 c2), .int .i64 m.save, .bool true, .bool false, .int .i64 m.halt, (.slice A3 n3 c3), (.slice A4 n4 c4), .int .i64 m.count] 51)).alloc (Obj.cells #[.slice none 0 0, .int .i64 0, .slice none 0 0, .int .i64 0, .bool false, .bool false, .int .i64 0, .slice none 0 0, .slice none 0 0, .int .i64 0] 51))).frozen? ⟨w.heap.size + 1, oo, none⟩ = false := fun oo => by simp
    generalize ((w.alloc (Obj.cells #[(.slice A1 n1 c1), .int .i64 m.pc, (.slice A2 n2 c2), .int .i64 m.save, .bool true, .bool false, .int .i64 m.halt, (.slice A3 n3 c3), (.slice A4 n4 c4), .int .i64 m.count] 51)).alloc (Obj.cells #[.slice none 0 0, .int .i64 0, .slice none 0 0, .int .i64 0, .bool false, .bool false, .int .i64 0, .slice none 0 0, .slice none 0 0, .int .i64 0] 51)) = w0 at *
    have ym : w.heap.size < w0.heap.size := by omega
    have xm0 := hBm_0 0 _ rfl
    have xm1 := hBm_0 1 _ rfl
    have xm2 := hBm_0 2 _ rfl
    have xm3 := hBm_0 3 _ rfl
    have xm4 := hBm_0 4 _ rfl
    have xm5 := hBm_0 5 _ rfl
    have xm6 := hBm_0 6 _ rfl
    have xm7 := hBm_0 7 _ rfl
    have xm8 := hBm_0 8 _ rfl
    have xm9 := hBm_0 9 _ rfl
    have fm := hFm_0
    have yres : w.heap.size + 1 < w0.heap.size := by omega
    have xres0 := hBres_0 0 _ rfl
    have xres1 := hBres_0 1 _ rfl
    have xres2 := hBres_0 2 _ rfl
    have xres3 := hBres_0 3 _ rfl
    have xres4 := hBres_0 4 _ rfl
    have xres5 := hBres_0 5 _ rfl
    have xres6 := hBres_0 6 _ rfl
    have xres7 := hBres_0 7 _ rfl
    have xres8 := hBres_0 8 _ rfl
    have xres9 := hBres_0 9 _ rfl
    have fres := hFres_0
    go_wp2
    refine bodyPost_ret (v := .agg #[(.slice A1 n1 c1), .int .i64 48, (.slice A2 n2 c2), .int .i64 m.pc, .bool false, .bool false, .int .i64 m.halt, (.slice A3 n3 c3), (.slice A4 n4 c4), .int .i64 m.count]) (by simp [results, Tryd.results108, go_sem, xres0, xres1, xres2, xres3, xres4, xres5, xres6, xres7, xres8, xres9]) rfl ⟨?_, Ext.hold he0⟩
    rw [HV.out]
    (try simp only [hl])
  · 
    have HV := hide (show mSample m false = ({ m with waits := true } : MchMach) by unfold mSample; rw [hw, hl]; rfl)
    go_enter Tryd.func108, Tryd.ntmps108
    go_upto_region 1 with fail
    have he0 : Ext w ((w.alloc (Obj.cells #[(.slice A1 n1 c1), .int .i64 m.pc, (.slice A2 n2 c2), .int .i64 m.save, .bool false, .bool true, .int .i64 m.halt, (.slice A3 n3 c3), (.slice A4 n4 c4), .int .i64 m.count] 51)).alloc (Obj.cells #[.slice none 0 0, .int .i64 0, .slice none 0 0, .int .i64 0, .bool false, .bool false, .int .i64 0, .slice none 0 0, .slice none 0 0, .int .i64 0] 51)) := (Ext.auto)
    have hs0 : w.heap.size + 2 ≤ (((w.alloc (Obj.cells #[(.slice A1 n1 c1), .int .i64 m.pc, (.slice A2 n2 c2), .int .i64 m.save, .bool false, .bool true, .int .i64 m.halt, (.slice A3 n3 c3), (.slice A4 n4 c4), .int .i64 m.count] 51)).alloc (Obj.cells #[.slice none 0 0, .int .i64 0, .slice none 0 0, .int .i64 0, .bool false, .bool false, .int .i64 0, .slice none 0 0, .slice none 0 0, .int .i64 0] 51))).heap.size := by simp
    have hq0 := hide (show (((w.alloc (Obj.cells #[(.slice A1 n1 c1), .int .i64 m.pc, (.slice A2 n2 c2), .int .i64 m.save, .bool false, .bool true, .int .i64 m.halt, (.slice A3 n3 c3), (.slice A4 n4 c4), .int .i64 m.count] 51)).alloc (Obj.cells #[.slice none 0 0, .int .i64 0, .slice none 0 0, .int .i64 0, .bool false, .bool false, .int .i64 0, .slice none 0 0, .slice none 0 0, .int .i64 0] 51))).heap.size = w.heap.size + 2 by simp)
    have hBm_0 : Bx ((w.alloc (Obj.cells #[(.slice A1 n1 c1), .int .i64 m.pc, (.slice A2 n2 c2), .int .i64 m.save, .bool false, .bool true, .int .i64 m.halt, (.slice A3 n3 c3), (.slice A4 n4 c4), .int .i64 m.count] 51)).alloc (Obj.cells #[.slice none 0 0, .int .i64 0, .slice none 0 0, .int .i64 0, .bool false, .bool false, .int .i64 0, .slice none 0 0, .slice none 0 0, .int .i64 0] 51)) (w.heap.size) [(.slice A1 n1 c1), .int .i64 m.pc, (.slice A2 n2 c2), .int .i64 m.save, .bool false, .bool true, .int .i64 m.halt, (.slice A3 n3 c3), (.slice A4 n4 c4), .int .i64 m.count] := (by have := (Bx.alloc (Bx.new w #[(.slice A1 n1 c1), .int .i64 m.pc, (.slice A2 n2 c2), .int .i64 m.save, .bool false, .bool true, .int .i64 m.halt, (.slice A3 n3 c3), (.slice A4 n4 c4), .int .i64 m.count] 51) (by simp) #[.slice none 0 0, .int .i64 0, .slice none 0 0, .int .i64 0, .bool false, .bool false, .int .i64 0, .slice none 0 0, .slice none 0 0, .int .i64 0] 51); simpa using this)
    have hFm_0 : ∀ oo, (((w.alloc (Obj.cells #[(.slice A1 n1 c1), .int .i64 m.pc, (.slice A2 n2 c2), .int .i64 m.save, .bool false, .bool true, .int .i64 m.halt, (.slice A3 n3 c3), (.slice A4 n4 c4), .int .i64 m.count] 51)).alloc (Obj.cells #[.slice none 0 0, .int .i64 0, .slice none 0 0, .int .i64 0, .bool false, .bool false, .int .i64 0, .slice none 0 0, .slice none 0 0, .int .i64 0] 51))).frozen? ⟨w.heap.size, oo, none⟩ = false := fun oo => by simp
    have hBres_0 : Bx ((w.alloc (Obj.cells #[(.slice A1 n1 c1), .int .i64 m.pc, (.slice A2 n2 c2), .int .i64 m.save, .bool false, .bool true, .int .i64 m.halt, (.slice A3 n3 c3), (.slice A4 n4 c4), .int .i64 m.count] 51)).alloc (Obj.cells #[.slice none 0 0, .int .i64 0, .slice none 0 0, .int .i64 0, .bool false, .bool false, .int .i64 0, .slice none 0 0, .slice none 0 0, .int .i64 0] 51)) (w.heap.size + 1) [.slice none 0 0, .int .i64 0, .slice none 0 0, .int .i64 0, .bool false, .bool false, .int .i64 0, .slice none 0 0, .slice none 0 0, .int .i64 0] := (by have := (Bx.new (w.alloc (Obj.cells #[(.slice A1 n1 c1), .int .i64 m.pc, (.slice A2 n2 c2), .int .i64 m.save, .bool false, .bool true, .int .i64 m.halt, (.slice A3 n3 c3), (.slice A4 n4 c4), .int .i64 m.count] 51)) #[.slice none 0 0, .int .i64 0, .slice none 0 0, .int .i64 0, .bool false, .bool false, .int .i64 0, .slice none 0 0, .slice none 0 0, .int .i64 0] 51); simpa using this)
    have hFres_0 : ∀ oo, (((w.alloc (Obj.cells #[(.slice A1 n1 c1), .int .i64 m.pc, (.slice A2 n2 c2), .int .i64 m.save, .bool false, .bool true, .int .i64 m.halt, (.slice A3 n3 c3), (.slice A4 n4 c4), .int .i64 m.count] 51)).alloc (Obj.cells #[.slice none 0 0, .int .i64 0, .slice none 0 0, .int .i64 0, .bool false, .bool false, .int .i64 0, .slice none 0 0, .slice none 0 0, .int .i64 0] 51))).frozen? ⟨w.heap.size + 1, oo, none⟩ = false := fun oo => by simp
    generalize ((w.alloc (Obj.cells #[(.slice A1 n1 c1), .int .i64 m.pc, (.slice A2 n2 c2), .int .i64 m.save, .bool false, .bool true, .int .i64 m.halt, (.slice A3 n3 c3), (.slice A4 n4 c4), .int .i64 m.count] 51)).alloc (Obj.cells #[.slice none 0 0, .int .i64 0, .slice none 0 0, .int .i64 0, .bool false, .bool false, .int .i64 0, .slice none 0 0, .slice none 0 0, .int .i64 0] 51)) = w0 at *
    have ym : w.heap.size < w0.heap.size := by omega
    have xm0 := hBm_0 0 _ rfl
    have xm1 := hBm_0 1 _ rfl
    have xm2 := hBm_0 2 _ rfl
    have xm3 := hBm_0 3 _ rfl
    have xm4 := hBm_0 4 _ rfl
    have xm5 := hBm_0 5 _ rfl
    have xm6 := hBm_0 6 _ rfl
    have xm7 := hBm_0 7 _ rfl
    have xm8 := hBm_0 8 _ rfl
    have xm9 := hBm_0 9 _ rfl
    have fm := hFm_0
    have yres : w.heap.size + 1 < w0.heap.size := by omega
    have xres0 := hBres_0 0 _ rfl
    have xres1 := hBres_0 1 _ rfl
    have xres2 := hBres_0 2 _ rfl
    have xres3 := hBres_0 3 _ rfl
    have xres4 := hBres_0 4 _ rfl
    have xres5 := hBres_0 5 _ rfl
    have xres6 := hBres_0 6 _ rfl
    have xres7 := hBres_0 7 _ rfl
    have xres8 := hBres_0 8 _ rfl
    have xres9 := hBres_0 9 _ rfl
    have fres := hFres_0
    go_wp2
    refine bodyPost_ret (v := .agg #[(.slice A1 n1 c1), .int .i64 m.pc, (.slice A2 n2 c2), .int .i64 m.save, .bool false, .bool true, .int .i64 m.halt, (.slice A3 n3 c3), (.slice A4 n4 c4), .int .i64 m.count]) (by simp [results, Tryd.results108, go_sem, xres0, xres1, xres2, xres3, xres4, xres5, xres6, xres7, xres8, xres9]) rfl ⟨?_, Ext.hold he0⟩
    rw [HV.out]
    (try simp only [hl])
  · 
    have HV := hide (show mSample m false = ({ m with waits := false, lets := false, save := m.pc, pc := 48 } : MchMach) by unfold mSample; rw [hw, hl]; rfl)
    go_enter Tryd.func108, Tryd.ntmps108
    go_upto_region 1 with fail
    have he0 : Ext w ((w.alloc (Obj.cells #[(.slice A1 n1 c1), .int .i64 m.pc, (.slice A2 n2 c2), .int .i64 m.save, .bool true, .bool true, .int .i64 m.halt, (.slice A3 n3 c3), (.slice A4 n4 c4), .int .i64 m.count] 51)).alloc (Obj.cells #[.slice none 0 0, .int .i64 0, .slice none 0 0, .int .i64 0, .bool false, .bool false, .int .i64 0, .slice none 0 0, .slice none 0 0, .int .i64 0] 51)) := (Ext.auto)
    have hs0 : w.heap.size + 2 ≤ (((w.alloc (Obj.cells #[(.slice A1 n1 c1), .int .i64 m.pc, (.slice A2 n2 c2), .int .i64 m.save, .bool true, .bool true, .int .i64 m.halt, (.slice A3 n3 c3), (.slice A4 n4 c4), .int .i64 m.count] 51)).alloc (Obj.cells #[.slice none 0 0, .int .i64 0, .slice none 0 0, .int .i64 0, .bool false, .bool false, .int .i64 0, .slice none 0 0, .slice none 0 0, .int .i64 0] 51))).heap.size := by simp
    have hq0 := hide (show (((w.alloc (Obj.cells #[(.slice A1 n1 c1), .int .i64 m.pc, (.slice A2 n2 c2), .int .i64 m.save, .bool true, .bool true, .int .i64 m.halt, (.slice A3 n3 c3), (.slice A4 n4 c4), .int .i64 m.count] 51)).alloc (Obj.cells #[.slice none 0 0, .int .i64 0, .slice none 0 0, .int .i64 0, .bool false, .bool false, .int .i64 0, .slice none 0 0, .slice none 0 0, .int .i64 0] 51))).heap.size = w.heap.size + 2 by simp)
    have hBm_0 : Bx ((w.alloc (Obj.cells #[(.slice A1 n1 c1), .int .i64 m.pc, (.slice A2 n2 c2), .int .i64 m.save, .bool true, .bool true, .int .i64 m.halt, (.slice A3 n3 c3), (.slice A4 n4 c4), .int .i64 m.count] 51)).alloc (Obj.cells #[.slice none 0 0, .int .i64 0, .slice none 0 0, .int .i64 0, .bool false, .bool false, .int .i64 0, .slice none 0 0, .slice none 0 0, .int .i64 0] 51)) (w.heap.size) [(.slice A1 n1 c1), .int .i64 m.pc, (.slice A2 n2 c2), .int .i64 m.save, .bool true, .bool true, .int .i64 m.halt, (.slice A3 n3 c3), (.slice A4 n4 c4), .int .i64 m.count] := (by have := (Bx.alloc (Bx.new w #[(.slice A1 n1 c1), .int .i64 m.pc, (.slice A2 n2 c2), .int .i64 m.save, .bool true, .bool true, .int .i64 m.halt, (.slice A3 n3 c3), (.slice A4 n4 c4), .int .i64 m.count] 51) (by simp) #[.slice none 0 0, .int .i64 0, .slice none 0 0, .int .i64 0, .bool false, .bool false, .int .i64 0, .slice none 0 0, .slice none 0 0, .int .i64 0] 51); simpa using this)
    have hFm_0 : ∀ oo, (((w.alloc (Obj.cells #[(.slice A1 n1 c1), .int .i64 m.pc, (.slice A2 n2 c2), .int .i64 m.save, .bool true, .bool true, .int .i64 m.halt, (.slice A3 n3 c3), (.slice A4 n4 c4), .int .i64 m.count] 51)).alloc (Obj.cells #[.slice none 0 0, .int .i64 0, .slice none 0 0, .int .i64 0, .bool false, .bool false, .int .i64 0, .slice none 0 0, .slice none 0 0, .int .i64 0] 51))).frozen? ⟨w.heap.size, oo, none⟩ = false := fun oo => by simp
    have hBres_0 : Bx ((w.alloc (Obj.cells #[(.slice A1 n1 c1), .int .i64 m.pc, (.slice A2 n2 c2), .int .i64 m.save, .bool true, .bool true, .int .i64 m.halt, (.slice A3 n3 c3), (.slice A4 n4 c4), .int .i64 m.count] 51)).alloc (Obj.cells #[.slice none 0 0, .int .i64 0, .slice none 0 0, .int .i64 0, .bool false, .bool false, .int .i64 0, .slice none 0 0, .slice none 0 0, .int .i64 0] 51)) (w.heap.size + 1) [.slice none 0 0, .int .i64 0, .slice none 0 0, .int .i64 0, .bool false, .bool false, .int .i64 0, .slice none 0 0, .slice none 0 0, .int .i64 0] := (by have := (Bx.new (w.alloc (Obj.cells #[(.slice A1 n1 c1), .int .i64 m.pc, (.slice A2 n2 c2), .int .i64 m.save, .bool true, .bool true, .int .i64 m.halt, (.slice A3 n3 c3), (.slice A4 n4 c4), .int .i64 m.count] 51)) #[.slice none 0 0, .int .i64 0, .slice none 0 0, .int .i64 0, .bool false, .bool false, .int .i64 0, .slice none 0 0, .slice none 0 0, .int .i64 0] 51); simpa using this)
    have hFres_0 : ∀ oo, (((w.alloc (Obj.cells #[(.slice A1 n1 c1), .int .i64 m.pc, (.slice A2 n2 c2), .int .i64 m.save, .bool true, .bool true, .int .i64 m.halt, (.slice A3 n3 c3), (.slice A4 n4 c4), .int .i64 m.count] 51)).alloc (Obj.cells #[.slice none 0 0, .int .i64 0, .slice none 0 0, .int .i64 0, .bool false, .bool false, .int .i64 0, .slice none 0 0, .slice none 0 0, .int .i64 0] 51))).frozen? ⟨w.heap.size + 1, oo, none⟩ = false := fun oo => by simp
    generalize ((w.alloc (Obj.cells #[(.slice A1 n1 c1), .int .i64 m.pc, (.slice A2 n2 c2), .int .i64 m.save, .bool true, .bool true, .int .i64 m.halt, (.slice A3 n3 c3), (.slice A4 n4 c4), .int .i64 m.count] 51)).alloc (Obj.cells #[.slice none 0 0, .int .i64 0, .slice none 0 0, .int .i64 0, .bool false, .bool false, .int .i64 0, .slice none 0 0, .slice none 0 0, .int .i64 0] 51)) = w0 at *
    have ym : w.heap.size < w0.heap.size := by omega
    have xm0 := hBm_0 0 _ rfl
    have xm1 := hBm_0 1 _ rfl
    have xm2 := hBm_0 2 _ rfl
    have xm3 := hBm_0 3 _ rfl
    have xm4 := hBm_0 4 _ rfl
    have xm5 := hBm_0 5 _ rfl
    have xm6 := hBm_0 6 _ rfl
    have xm7 := hBm_0 7 _ rfl
    have xm8 := hBm_0 8 _ rfl
    have xm9 := hBm_0 9 _ rfl
    have fm := hFm_0
    have yres : w.heap.size + 1 < w0.heap.size := by omega
    have xres0 := hBres_0 0 _ rfl
    have xres1 := hBres_0 1 _ rfl
    have xres2 := hBres_0 2 _ rfl
    have xres3 := hBres_0 3 _ rfl
    have xres4 := hBres_0 4 _ rfl
    have xres5 := hBres_0 5 _ rfl
    have xres6 := hBres_0 6 _ rfl
    have xres7 := hBres_0 7 _ rfl
    have xres8 := hBres_0 8 _ rfl
    have xres9 := hBres_0 9 _ rfl
    have fres := hFres_0
    go_wp2
    refine bodyPost_ret (v := .agg #[(.slice A1 n1 c1), .int .i64 48, (.slice A2 n2 c2), .int .i64 m.pc, .bool false, .bool false, .int .i64 m.halt, (.slice A3 n3 c3), (.slice A4 n4 c4), .int .i64 m.count]) (by simp [results, Tryd.results108, go_sem, xres0, xres1, xres2, xres3, xres4, xres5, xres6, xres7, xres8, xres9]) rfl ⟨?_, Ext.hold he0⟩
    rw [HV.out]
    (try simp only [hl])
  · 
    have HV := hide (show mSample m true = ({ m with waits := true } : MchMach) by unfold mSample; rw [hw, hl]; rfl)
    go_enter Tryd.func108, Tryd.ntmps108
    go_upto_region 1 with fail
    have he0 : Ext w ((w.alloc (Obj.cells #[(.slice A1 n1 c1), .int .i64 m.pc, (.slice A2 n2 c2), .int .i64 m.save, .bool false, .bool true, .int .i64 m.halt, (.slice A3 n3 c3), (.slice A4 n4 c4), .int .i64 m.count] 51)).alloc (Obj.cells #[.slice none 0 0, .int .i64 0, .slice none 0 0, .int .i64 0, .bool false, .bool false, .int .i64 0, .slice none 0 0, .slice none 0 0, .int .i64 0] 51)) := (Ext.auto)
    have hs0 : w.heap.size + 2 ≤ (((w.alloc (Obj.cells #[(.slice A1 n1 c1), .int .i64 m.pc, (.slice A2 n2 c2), .int .i64 m.save, .bool false, .bool true, .int .i64 m.halt, (.slice A3 n3 c3), (.slice A4 n4 c4), .int .i64 m.count] 51)).alloc (Obj.cells #[.slice none 0 0, .int .i64 0, .slice none 0 0, .int .i64 0, .bool false, .bool false, .int .i64 0, .slice none 0 0, .slice none 0 0, .int .i64 0] 51))).heap.size := by simp
    have hq0 := hide (show (((w.alloc (Obj.cells #[(.slice A1 n1 c1), .int .i64 m.pc, (.slice A2 n2 c2), .int .i64 m.save, .bool false, .bool true, .int .i64 m.halt, (.slice A3 n3 c3), (.slice A4 n4 c4), .int .i64 m.count] 51)).alloc (Obj.cells #[.slice none 0 0, .int .i64 0, .slice none 0 0, .int .i64 0, .bool false, .bool false, .int .i64 0, .slice none 0 0, .slice none 0 0, .int .i64 0] 51))).heap.size = w.heap.size + 2 by simp)
    have hBm_0 : Bx ((w.alloc (Obj.cells #[(.slice A1 n1 c1), .int .i64 m.pc, (.slice A2 n2 c2), .int .i64 m.save, .bool false, .bool true, .int .i64 m.halt, (.slice A3 n3 c3), (.slice A4 n4 c4), .int .i64 m.count] 51)).alloc (Obj.cells #[.slice none 0 0, .int .i64 0, .slice none 0 0, .int .i64 0, .bool false, .bool false, .int .i64 0, .slice none 0 0, .slice none 0 0, .int .i64 0] 51)) (w.heap.size) [(.slice A1 n1 c1), .int .i64 m.pc, (.slice A2 n2 c2), .int .i64 m.save, .bool false, .bool true, .int .i64 m.halt, (.slice A3 n3 c3), (.slice A4 n4 c4), .int .i64 m.count] := (by have := (Bx.alloc (Bx.new w #[(.slice A1 n1 c1), .int .i64 m.pc, (.slice A2 n2 c2), .int .i64 m.save, .bool false, .bool true, .int .i64 m.halt, (.slice A3 n3 c3), (.slice A4 n4 c4), .int .i64 m.count] 51) (by simp) #[.slice none 0 0, .int .i64 0, .slice none 0 0, .int .i64 0, .bool false, .bool false, .int .i64 0, .slice none 0 0, .slice none 0 0, .int .i64 0] 51); simpa using this)
    have hFm_0 : ∀ oo, (((w.alloc (Obj.cells #[(.slice A1 n1 c1), .int .i64 m.pc, (.slice A2 n2 c2), .int .i64 m.save, .bool false, .bool true, .int .i64 m.halt, (.slice A3 n3 c3), (.slice A4 n4 c4), .int .i64 m.count] 51)).alloc (Obj.cells #[.slice none 0 0, .int .i64 0, .slice none 0 0, .int .i64 0, .bool false, .bool false, .int .i64 0, .slice none 0 0, .slice none 0 0, .int .i64 0] 51))).frozen? ⟨w.heap.size, oo, none⟩ = false := fun oo => by simp
    have hBres_0 : Bx ((w.alloc (Obj.cells #[(.slice A1 n1 c1), .int .i64 m.pc, (.slice A2 n2 c2), .int .i64 m.save, .bool false, .bool true, .int .i64 m.halt, (.slice A3 n3 c3), (.slice A4 n4 c4), .int .i64 m.count] 51)).alloc (Obj.cells #[.slice none 0 0, .int .i64 0, .slice none 0 0, .int .i64 0, .bool false, .bool false, .int .i64 0, .slice none 0 0, .slice none 0 0, .int .i64 0] 51)) (w.heap.size + 1) [.slice none 0 0, .int .i64 0, .slice none 0 0, .int .i64 0, .bool false, .bool false, .int .i64 0, .slice none 0 0, .slice none 0 0, .int .i64 0] := (by have := (Bx.new (w.alloc (Obj.cells #[(.slice A1 n1 c1), .int .i64 m.pc, (.slice A2 n2 c2), .int .i64 m.save, .bool false, .bool true, .int .i64 m.halt, (.slice A3 n3 c3), (.slice A4 n4 c4), .int .i64 m.count] 51)) #[.slice none 0 0, .int .i64 0, .slice none 0 0, .int .i64 0, .bool false, .bool false, .int .i64 0, .slice none 0 0, .slice none 0 0, .int .i64 0] 51); simpa using this)
    have hFres_0 : ∀ oo, (((w.alloc (Obj.cells #[(.slice A1 n1 c1), .int .i64 m.pc, (.slice A2 n2 c2), .int .i64 m.save, .bool false, .bool true, .int .i64 m.halt, (.slice A3 n3 c3), (.slice A4 n4 c4), .int .i64 m.count] 51)).alloc (Obj.cells #[.slice none 0 0, .int .i64 0, .slice none 0 0, .int .i64 0, .bool false, .bool false, .int .i64 0, .slice none 0 0, .slice none 0 0, .int .i64 0] 51))).frozen? ⟨w.heap.size + 1, oo, none⟩ = false := fun oo => by simp
    generalize ((w.alloc (Obj.cells #[(.slice A1 n1 c1), .int .i64 m.pc, (.slice A2 n2 c2), .int .i64 m.save, .bool false, .bool true, .int .i64 m.halt, (.slice A3 n3 c3), (.slice A4 n4 c4), .int .i64 m.count] 51)).alloc (Obj.cells #[.slice none 0 0, .int .i64 0, .slice none 0 0, .int .i64 0, .bool false, .bool false, .int .i64 0, .slice none 0 0, .slice none 0 0, .int .i64 0] 51)) = w0 at *
    have ym : w.heap.size < w0.heap.size := by omega
    have xm0 := hBm_0 0 _ rfl
    have xm1 := hBm_0 1 _ rfl
    have xm2 := hBm_0 2 _ rfl
    have xm3 := hBm_0 3 _ rfl
    have xm4 := hBm_0 4 _ rfl
    have xm5 := hBm_0 5 _ rfl
    have xm6 := hBm_0 6 _ rfl
    have xm7 := hBm_0 7 _ rfl
    have xm8 := hBm_0 8 _ rfl
    have xm9 := hBm_0 9 _ rfl
    have fm := hFm_0
    have yres : w.heap.size + 1 < w0.heap.size := by omega
    have xres0 := hBres_0 0 _ rfl
    have xres1 := hBres_0 1 _ rfl
    have xres2 := hBres_0 2 _ rfl
    have xres3 := hBres_0 3 _ rfl
    have xres4 := hBres_0 4 _ rfl
    have xres5 := hBres_0 5 _ rfl
    have xres6 := hBres_0 6 _ rfl
    have xres7 := hBres_0 7 _ rfl
    have xres8 := hBres_0 8 _ rfl
    have xres9 := hBres_0 9 _ rfl
    have fres := hFres_0
    go_wp2
    refine bodyPost_ret (v := .agg #[(.slice A1 n1 c1), .int .i64 m.pc, (.slice A2 n2 c2), .int .i64 m.save, .bool false, .bool true, .int .i64 m.halt, (.slice A3 n3 c3), (.slice A4 n4 c4), .int .i64 m.count]) (by simp [results, Tryd.results108, go_sem, xres0, xres1, xres2, xres3, xres4, xres5, xres6, xres7, xres8, xres9]) rfl ⟨?_, Ext.hold he0⟩
    rw [HV.out]
    (try simp only [hl])
  · 
    have HV := hide (show mSample m true = ({ m with waits := false, lets := false, save := m.pc, pc := 48 } : MchMach) by unfold mSample; rw [hw, hl]; rfl)
    go_enter Tryd.func108, Tryd.ntmps108
    go_upto_region 1 with fail
    have he0 : Ext w ((w.alloc (Obj.cells #[(.slice A1 n1 c1), .int .i64 m.pc, (.slice A2 n2 c2), .int .i64 m.save, .bool true, .bool true, .int .i64 m.halt, (.slice A3 n3 c3), (.slice A4 n4 c4), .int .i64 m.count] 51)).alloc (Obj.cells #[.slice none 0 0, .int .i64 0, .slice none 0 0, .int .i64 0, .bool false, .bool false, .int .i64 0, .slice none 0 0, .slice none 0 0, .int .i64 0] 51)) := (Ext.auto)
    have hs0 : w.heap.size + 2 ≤ (((w.alloc (Obj.cells #[(.slice A1 n1 c1), .int .i64 m.pc, (.slice A2 n2 c2), .int .i64 m.save, .bool true, .bool true, .int .i64 m.halt, (.slice A3 n3 c3), (.slice A4 n4 c4), .int .i64 m.count] 51)).alloc (Obj.cells #[.slice none 0 0, .int .i64 0, .slice none 0 0, .int .i64 0, .bool false, .bool false, .int .i64 0, .slice none 0 0, .slice none 0 0, .int .i64 0] 51))).heap.size := by simp
    have hq0 := hide (show (((w.alloc (Obj.cells #[(.slice A1 n1 c1), .int .i64 m.pc, (.slice A2 n2 c2), .int .i64 m.save, .bool true, .bool true, .int .i64 m.halt, (.slice A3 n3 c3), (.slice A4 n4 c4), .int .i64 m.count] 51)).alloc (Obj.cells #[.slice none 0 0, .int .i64 0, .slice none 0 0, .int .i64 0, .bool false, .bool false, .int .i64 0, .slice none 0 0, .slice none 0 0, .int .i64 0] 51))).heap.size = w.heap.size + 2 by simp)
    have hBm_0 : Bx ((w.alloc (Obj.cells #[(.slice A1 n1 c1), .int .i64 m.pc, (.slice A2 n2 c2), .int .i64 m.save, .bool true, .bool true, .int .i64 m.halt, (.slice A3 n3 c3), (.slice A4 n4 c4), .int .i64 m.count] 51)).alloc (Obj.cells #[.slice none 0 0, .int .i64 0, .slice none 0 0, .int .i64 0, .bool false, .bool false, .int .i64 0, .slice none 0 0, .slice none 0 0, .int .i64 0] 51)) (w.heap.size) [(.slice A1 n1 c1), .int .i64 m.pc, (.slice A2 n2 c2), .int .i64 m.save, .bool true, .bool true, .int .i64 m.halt, (.slice A3 n3 c3), (.slice A4 n4 c4), .int .i64 m.count] := (by have := (Bx.alloc (Bx.new w #[(.slice A1 n1 c1), .int .i64 m.pc, (.slice A2 n2 c2), .int .i64 m.save, .bool true, .bool true, .int .i64 m.halt, (.slice A3 n3 c3), (.slice A4 n4 c4), .int .i64 m.count] 51) (by simp) #[.slice none 0 0, .int .i64 0, .slice none 0 0, .int .i64 0, .bool false, .bool false, .int .i64 0, .slice none 0 0, .slice none 0 0, .int .i64 0] 51); simpa using this)
    have hFm_0 : ∀ oo, (((w.alloc (Obj.cells #[(.slice A1 n1 c1), .int .i64 m.pc, (.slice A2 n2 c2), .int .i64 m.save, .bool true, .bool true, .int .i64 m.halt, (.slice A3 n3 c3), (.slice A4 n4 c4), .int .i64 m.count] 51)).alloc (Obj.cells #[.slice none 0 0, .int .i64 0, .slice none 0 0, .int .i64 0, .bool false, .bool false, .int .i64 0, .slice none 0 0, .slice none 0 0, .int .i64 0] 51))).frozen? ⟨w.heap.size, oo, none⟩ = false := fun oo => by simp
    have hBres_0 : Bx ((w.alloc (Obj.cells #[(.slice A1 n1 c1), .int .i64 m.pc, (.slice A2 n2 c2), .int .i64 m.save, .bool true, .bool true, .int .i64 m.halt, (.slice A3 n3 c3), (.slice A4 n4 c4), .int .i64 m.count] 51)).alloc (Obj.cells #[.slice none 0 0, .int .i64 0, .slice none 0 0, .int .i64 0, .bool false, .bool false, .int .i64 0, .slice none 0 0, .slice none 0 0, .int .i64 0] 51)) (w.heap.size + 1) [.slice none 0 0, .int .i64 0, .slice none 0 0, .int .i64 0, .bool false, .bool false, .int .i64 0, .slice none 0 0, .slice none 0 0, .int .i64 0] := (by have := (Bx.new (w.alloc (Obj.cells #[(.slice A1 n1 c1), .int .i64 m.pc, (.slice A2 n2 c2), .int .i64 m.save, .bool true, .bool true, .int .i64 m.halt, (.slice A3 n3 c3), (.slice A4 n4 c4), .int .i64 m.count] 51)) #[.slice none 0 0, .int .i64 0, .slice none 0 0, .int .i64 0, .bool false, .bool false, .int .i64 0, .slice none 0 0, .slice none 0 0, .int .i64 0] 51); simpa using this)
    have hFres_0 : ∀ oo, (((w.alloc (Obj.cells #[(.slice A1 n1 c1), .int .i64 m.pc, (.slice A2 n2 c2), .int .i64 m.save, .bool true, .bool true, .int .i64 m.halt, (.slice A3 n3 c3), (.slice A4 n4 c4), .int .i64 m.count] 51)).alloc (Obj.cells #[.slice none 0 0, .int .i64 0, .slice none 0 0, .int .i64 0, .bool false, .bool false, .int .i64 0, .slice none 0 0, .slice none 0 0, .int .i64 0] 51))).frozen? ⟨w.heap.size + 1, oo, none⟩ = false := fun oo => by simp
    generalize ((w.alloc (Obj.cells #[(.slice A1 n1 c1), .int .i64 m.pc, (.slice A2 n2 c2), .int .i64 m.save, .bool true, .bool true, .int .i64 m.halt, (.slice A3 n3 c3), (.slice A4 n4 c4), .int .i64 m.count] 51)).alloc (Obj.cells #[.slice none 0 0, .int .i64 0, .slice none 0 0, .int .i64 0, .bool false, .bool false, .int .i64 0, .slice none 0 0, .slice none 0 0, .int .i64 0] 51)) = w0 at *
    have ym : w.heap.size < w0.heap.size := by omega
    have xm0 := hBm_0 0 _ rfl
    have xm1 := hBm_0 1 _ rfl
    have xm2 := hBm_0 2 _ rfl
    have xm3 := hBm_0 3 _ rfl
    have xm4 := hBm_0 4 _ rfl
    have xm5 := hBm_0 5 _ rfl
    have xm6 := hBm_0 6 _ rfl
    have xm7 := hBm_0 7 _ rfl
    have xm8 := hBm_0 8 _ rfl
    have xm9 := hBm_0 9 _ rfl
    have fm := hFm_0
    have yres : w.heap.size + 1 < w0.heap.size := by omega
    have xres0 := hBres_0 0 _ rfl
    have xres1 := hBres_0 1 _ rfl
    have xres2 := hBres_0 2 _ rfl
    have xres3 := hBres_0 3 _ rfl
    have xres4 := hBres_0 4 _ rfl
    have xres5 := hBres_0 5 _ rfl
    have xres6 := hBres_0 6 _ rfl
    have xres7 := hBres_0 7 _ rfl
    have xres8 := hBres_0 8 _ rfl
    have xres9 := hBres_0 9 _ rfl
    have fres := hFres_0
    go_wp2
    refine bodyPost_ret (v := .agg #[(.slice A1 n1 c1), .int .i64 48, (.slice A2 n2 c2), .int .i64 m.pc, .bool false, .bool false, .int .i64 m.halt, (.slice A3 n3 c3), (.slice A4 n4 c4), .int .i64 m.count]) (by simp [results, Tryd.results108, go_sem, xres0, xres1, xres2, xres3, xres4, xres5, xres6, xres7, xres8, xres9]) rfl ⟨?_, Ext.hold he0⟩
    rw [HV.out]
    (try simp only [hl])

set_option maxHeartbeats 8000000 in
theorem l3Stop_any (m : MchMach) (k : Int) (hp0 : 0 ≤ m.pc) (hp1 : m.pc < 65536) (hs0_ : 0 ≤ m.save) (hs1_ : m.save < 65536) (hc0 : 0 ≤ m.count) (hc1 : m.count ≤ 1000000) (A1 A2 A3 A4 : Option Addr) (n1 c1 n2 c2 n3 c3 n4 c4 : Nat) (w : World) :
    Calls Tryd.prog 111 #[.agg #[(.slice A1 n1 c1), .int .i64 m.pc, (.slice A2 n2 c2), .int .i64 m.save, .bool m.lets, .bool m.waits, .int .i64 m.halt, (.slice A3 n3 c3), (.slice A4 n4 c4), .int .i64 m.count], .int .i64 k] w fun e w' => e = .returned (.agg #[(.slice A1 n1 c1), .int .i64 ((mStop m k).pc), (.slice A2 n2 c2), .int .i64 ((mStop m k).save), .bool (mStop m k).lets, .bool (mStop m k).waits, .int .i64 ((mStop m k).halt), (.slice A3 n3 c3), (.slice A4 n4 c4), .int .i64 ((mStop m k).count)]) ∧ Ext w w' := by
  by_cases hk1 : k = 1
  · 
    subst hk1
    have HV := hide (show mStop m 1 = ({ m with lets := true } : MchMach).next m.save by unfold mStop; rfl)
    go_enter Tryd.func111, Tryd.ntmps111
    go_upto_region 1 with fail
    have he0 : Ext w ((w.alloc (Obj.cells #[(.slice A1 n1 c1), .int .i64 m.pc, (.slice A2 n2 c2), .int .i64 m.save, .bool m.lets, .bool m.waits, .int .i64 m.halt, (.slice A3 n3 c3), (.slice A4 n4 c4), .int .i64 m.count] 51)).alloc (Obj.cells #[.slice none 0 0, .int .i64 0, .slice none 0 0, .int .i64 0, .bool false, .bool false, .int .i64 0, .slice none 0 0, .slice none 0 0, .int .i64 0] 51)) := (Ext.auto)
    have hs0 : w.heap.size + 2 ≤ (((w.alloc (Obj.cells #[(.slice A1 n1 c1), .int .i64 m.pc, (.slice A2 n2 c2), .int .i64 m.save, .bool m.lets, .bool m.waits, .int .i64 m.halt, (.slice A3 n3 c3), (.slice A4 n4 c4), .int .i64 m.count] 51)).alloc (Obj.cells #[.slice none 0 0, .int .i64 0, .slice none 0 0, .int .i64 0, .bool false, .bool false, .int .i64 0, .slice none 0 0, .slice none 0 0, .int .i64 0] 51))).heap.size := by simp
    have hq0 := hide (show (((w.alloc (Obj.cells #[(.slice A1 n1 c1), .int .i64 m.pc, (.slice A2 n2 c2), .int .i64 m.save, .bool m.lets, .bool m.waits, .int .i64 m.halt, (.slice A3 n3 c3), (.slice A4 n4 c4), .int .i64 m.count] 51)).alloc (Obj.cells #[.slice none 0 0, .int .i64 0, .slice none 0 0, .int .i64 0, .bool false, .bool false, .int .i64 0, .slice none 0 0, .slice none 0 0, .int .i64 0] 51))).heap.size = w.heap.size + 2 by simp)
    have hBm_0 : Bx ((w.alloc (Obj.cells #[(.slice A1 n1 c1), .int .i64 m.pc, (.slice A2 n2 c2), .int .i64 m.save, .bool m.lets, .bool m.waits, .int .i64 m.halt, (.slice A3 n3 c3), (.slice A4 n4 c4), .int .i64 m.count] 51)).alloc (Obj.cells #[.slice none 0 0, .int .i64 0, .slice none 0 0, .int .i64 0, .bool false, .bool false, .int .i64 0, .slice none 0 0, .slice none 0 0, .int .i64 0] 51)) (w.heap.size) [(.slice A1 n1 c1), .int .i64 m.pc, (.slice A2 n2 c2), .int .i64 m.save, .bool m.lets, .bool m.waits, .int .i64 m.halt, (.slice A3 n3 c3), (.slice A4 n4 c4), .int .i64 m.count] := (by have := (Bx.alloc (Bx.new w #[(.slice A1 n1 c1), .int .i64 m.pc, (.slice A2 n2 c2), .int .i64 m.save, .bool m.lets, .bool m.waits, .int .i64 m.halt, (.slice A3 n3 c3), (.slice A4 n4 c4), .int .i64 m.count] 51) (by simp) #[.slice none 0 0, .int .i64 0, .slice none 0 0, .int .i64 0, .bool false, .bool false, .int .i64 0, .slice none 0 0, .slice none 0 0, .int .i64 0] 51); simpa using this)
    have hFm_0 : ∀ oo, (((w.alloc (Obj.cells #[(.slice A1 n1 c1), .int .i64 m.pc, (.slice A2 n2 c2), .int .i64 m.save, .bool m.lets, .bool m.waits, .int .i64 m.halt, (.slice A3 n3 c3), (.slice A4 n4 c4), .int .i64 m.count] 51)).alloc (Obj.cells #[.slice none 0 0, .int .i64 0, .slice none 0 0, .int .i64 0, .bool false, .bool false, .int .i64 0, .slice none 0 0, .slice none 0 0, .int .i64 0] 51))).frozen? ⟨w.heap.size, oo, none⟩ = false := fun oo => by simp
    have hBres_0 : Bx ((w.alloc (Obj.cells #[(.slice A1 n1 c1), .int .i64 m.pc, (.slice A2 n2 c2), .int .i64 m.save, .bool m.lets, .bool m.waits, .int .i64 m.halt, (.slice A3 n3 c3), (.slice A4 n4 c4), .int .i64 m.count] 51)).alloc (Obj.cells #[.slice none 0 0, .int .i64 0, .slice none 0 0, .int .i64 0, .bool false, .bool false, .int .i64 0, .slice none 0 0, .slice none 0 0, .int .i64 0] 51)) (w.heap.size + 1) [.slice none 0 0, .int .i64 0, .slice none 0 0, .int .i64 0, .bool false, .bool false, .int .i64 0, .slice none 0 0, .slice none 0 0, .int .i64 0] := (by have := (Bx.new (w.alloc (Obj.cells #[(.slice A1 n1 c1), .int .i64 m.pc, (.slice A2 n2 c2), .int .i64 m.save, .bool m.lets, .bool m.waits, .int .i64 m.halt, (.slice A3 n3 c3), (.slice A4 n4 c4), .int .i64 m.count] 51)) #[.slice none 0 0, .int .i64 0, .slice none 0 0, .int .i64 0, .bool false, .bool false, .int .i64 0, .slice none 0 0, .slice none 0 0, .int .i64 0] 51); simpa using this)
    have hFres_0 : ∀ oo, (((w.alloc (Obj.cells #[(.slice A1 n1 c1), .int .i64 m.pc, (.slice A2 n2 c2), .int .i64 m.save, .bool m.lets, .bool m.waits, .int .i64 m.halt, (.slice A3 n3 c3), (.slice A4 n4 c4), .int .i64 m.count] 51)).alloc (Obj.cells #[.slice none 0 0, .int .i64 0, .slice none 0 0, .int .i64 0, .bool false, .bool false, .int .i64 0, .slice none 0 0, .slice none 0 0, .int .i64 0] 51))).frozen? ⟨w.heap.size + 1, oo, none⟩ = false := fun oo => by simp
    generalize ((w.alloc (Obj.cells #[(.slice A1 n1 c1), .int .i64 m.pc, (.slice A2 n2 c2), .int .i64 m.save, .bool m.lets, .bool m.waits, .int .i64 m.halt, (.slice A3 n3 c3), (.slice A4 n4 c4), .int .i64 m.count] 51)).alloc (Obj.cells #[.slice none 0 0, .int .i64 0, .slice none 0 0, .int .i64 0, .bool false, .bool false, .int .i64 0, .slice none 0 0, .slice none 0 0, .int .i64 0] 51)) = w0 at *
    have ym : w.heap.size < w0.heap.size := by omega
    have xm0 := hBm_0 0 _ rfl
    have xm1 := hBm_0 1 _ rfl
    have xm2 := hBm_0 2 _ rfl
    have xm3 := hBm_0 3 _ rfl
    have xm4 := hBm_0 4 _ rfl
    have xm5 := hBm_0 5 _ rfl
    have xm6 := hBm_0 6 _ rfl
    have xm7 := hBm_0 7 _ rfl
    have xm8 := hBm_0 8 _ rfl
    have xm9 := hBm_0 9 _ rfl
    have fm := hFm_0
    have yres : w.heap.size + 1 < w0.heap.size := by omega
    have xres0 := hBres_0 0 _ rfl
    have xres1 := hBres_0 1 _ rfl
    have xres2 := hBres_0 2 _ rfl
    have xres3 := hBres_0 3 _ rfl
    have xres4 := hBres_0 4 _ rfl
    have xres5 := hBres_0 5 _ rfl
    have xres6 := hBres_0 6 _ rfl
    have xres7 := hBres_0 7 _ rfl
    have xres8 := hBres_0 8 _ rfl
    have xres9 := hBres_0 9 _ rfl
    have fres := hFres_0
    go_wp2_with fail
    refine (l3Next_any ({ m with lets := true } : MchMach) m.save (by first | omega | (simp; omega)) (by first | omega | (simp; omega)) (by first | omega | (simp; omega)) (by first | omega | (simp; omega)) _ _ _ _ _ _ _ _ _ _ _ _ _).mono ?_
    rintro e w1 ⟨rfl, hy⟩
    clear xm0 xm1 xm2 xm3 xm4 xm5 xm6 xm7 xm8 xm9 ym
    clear fm
    clear xres0 xres1 xres2 xres3 xres4 xres5 xres6 xres7 xres8 xres9 yres
    clear fres
    have hs1 := hy.size
    try simp at hs1
    have he1 : Ext w w1 := Ext.trans (Ext.hold he0) hy
    have hBres_1 : Bx w1 (w.heap.size + 1) [.slice none 0 0, .int .i64 0, .slice none 0 0, .int .i64 0, .bool false, .bool false, .int .i64 0, .slice none 0 0, .slice none 0 0, .int .i64 0] := hy.bx (Bx.hold hBres_0) (by first | omega | (simp; done) | (simp; omega))
    have hFres_1 : ∀ oo, w1.frozen? ⟨w.heap.size + 1, oo, none⟩ = false := fun oo => (hy.frozen (by first | omega | (simp; done) | (simp; omega))).trans ((fz_hold hFres_0) oo)
    try clear hBres_0 hFres_0
    clear hy
    have yres : w.heap.size + 1 < w1.heap.size := by omega
    have xres0 := hBres_1 0 _ rfl
    have xres1 := hBres_1 1 _ rfl
    have xres2 := hBres_1 2 _ rfl
    have xres3 := hBres_1 3 _ rfl
    have xres4 := hBres_1 4 _ rfl
    have xres5 := hBres_1 5 _ rfl
    have xres6 := hBres_1 6 _ rfl
    have xres7 := hBres_1 7 _ rfl
    have xres8 := hBres_1 8 _ rfl
    have xres9 := hBres_1 9 _ rfl
    have fres := hFres_1
    go_wp2
    refine bodyPost_ret (v := .agg #[(.slice A1 n1 c1), .int .i64 ((({ m with lets := true } : MchMach).next m.save).pc), (.slice A2 n2 c2), .int .i64 ((({ m with lets := true } : MchMach).next m.save).save), .bool (({ m with lets := true } : MchMach).next m.save).lets, .bool (({ m with lets := true } : MchMach).next m.save).waits, .int .i64 ((({ m with lets := true } : MchMach).next m.save).halt), (.slice A3 n3 c3), (.slice A4 n4 c4), .int .i64 ((({ m with lets := true } : MchMach).next m.save).count)]) (by simp [results, Tryd.results111, go_sem, xres0, xres1, xres2, xres3, xres4, xres5, xres6, xres7, xres8, xres9]; try exact ⟨rfl, rfl, rfl, rfl, rfl, rfl⟩) rfl ⟨by rw [HV.out], Ext.hold he1⟩
  by_cases hk2 : k = 2
  · 
    subst hk2
    have HV := hide (show mStop m 2 = ({ m with lets := true } : MchMach).next (m.pc + 1) by unfold mStop; rfl)
    go_enter Tryd.func111, Tryd.ntmps111
    go_upto_region 1 with fail
    have he0 : Ext w ((w.alloc (Obj.cells #[(.slice A1 n1 c1), .int .i64 m.pc, (.slice A2 n2 c2), .int .i64 m.save, .bool m.lets, .bool m.waits, .int .i64 m.halt, (.slice A3 n3 c3), (.slice A4 n4 c4), .int .i64 m.count] 51)).alloc (Obj.cells #[.slice none 0 0, .int .i64 0, .slice none 0 0, .int .i64 0, .bool false, .bool false, .int .i64 0, .slice none 0 0, .slice none 0 0, .int .i64 0] 51)) := (Ext.auto)
    have hs0 : w.heap.size + 2 ≤ (((w.alloc (Obj.cells #[(.slice A1 n1 c1), .int .i64 m.pc, (.slice A2 n2 c2), .int .i64 m.save, .bool m.lets, .bool m.waits, .int .i64 m.halt, (.slice A3 n3 c3), (.slice A4 n4 c4), .int .i64 m.count] 51)).alloc (Obj.cells #[.slice none 0 0, .int .i64 0, .slice none 0 0, .int .i64 0, .bool false, .bool false, .int .i64 0, .slice none 0 0, .slice none 0 0, .int .i64 0] 51))).heap.size := by simp
    have hq0 := hide (show (((w.alloc (Obj.cells #[(.slice A1 n1 c1), .int .i64 m.pc, (.slice A2 n2 c2), .int .i64 m.save, .bool m.lets, .bool m.waits, .int .i64 m.halt, (.slice A3 n3 c3), (.slice A4 n4 c4), .int .i64 m.count] 51)).alloc (Obj.cells #[.slice none 0 0, .int .i64 0, .slice none 0 0, .int .i64 0, .bool false, .bool false, .int .i64 0, .slice none 0 0, .slice none 0 0, .int .i64 0] 51))).heap.size = w.heap.size + 2 by simp)
    have hBm_0 : Bx ((w.alloc (Obj.cells #[(.slice A1 n1 c1), .int .i64 m.pc, (.slice A2 n2 c2), .int .i64 m.save, .bool m.lets, .bool m.waits, .int .i64 m.halt, (.slice A3 n3 c3), (.slice A4 n4 c4), .int .i64 m.count] 51)).alloc (Obj.cells #[.slice none 0 0, .int .i64 0, .slice none 0 0, .int .i64 0, .bool false, .bool false, .int .i64 0, .slice none 0 0, .slice none 0 0, .int .i64 0] 51)) (w.heap.size) [(.slice A1 n1 c1), .int .i64 m.pc, (.slice A2 n2 c2), .int .i64 m.save, .bool m.lets, .bool m.waits, .int .i64 m.halt, (.slice A3 n3 c3), (.slice A4 n4 c4), .int .i64 m.count] := (by have := (Bx.alloc (Bx.new w #[(.slice A1 n1 c1), .int .i64 m.pc, (.slice A2 n2 c2), .int .i64 m.save, .bool m.lets, .bool m.waits, .int .i64 m.halt, (.slice A3 n3 c3), (.slice A4 n4 c4), .int .i64 m.count] 51) (by simp) #[.slice none 0 0, .int .i64 0, .slice none 0 0, .int .i64 0, .bool false, .bool false, .int .i64 0, .slice none 0 0, .slice none 0 0, .int .i64 0] 51); simpa using this)
    have hFm_0 : ∀ oo, (((w.alloc (Obj.cells #[(.slice A1 n1 c1), .int .i64 m.pc, (.slice A2 n2 c2), .int .i64 m.save, .bool m.lets, .bool m.waits, .int .i64 m.halt, (.slice A3 n3 c3), (.slice A4 n4 c4), .int .i64 m.count] 51)).alloc (Obj.cells #[.slice none 0 0, .int .i64 0, .slice none 0 0, .int .i64 0, .bool false, .bool false, .int .i64 0, .slice none 0 0, .slice none 0 0, .int .i64 0] 51))).frozen? ⟨w.heap.size, oo, none⟩ = false := fun oo => by simp
    have hBres_0 : Bx ((w.alloc (Obj.cells #[(.slice A1 n1 c1), .int .i64 m.pc, (.slice A2 n2 c2), .int .i64 m.save, .bool m.lets, .bool m.waits, .int .i64 m.halt, (.slice A3 n3 c3), (.slice A4 n4 c4), .int .i64 m.count] 51)).alloc (Obj.cells #[.slice none 0 0, .int .i64 0, .slice none 0 0, .int .i64 0, .bool false, .bool false, .int .i64 0, .slice none 0 0, .slice none 0 0, .int .i64 0] 51)) (w.heap.size + 1) [.slice none 0 0, .int .i64 0, .slice none 0 0, .int .i64 0, .bool false, .bool false, .int .i64 0, .slice none 0 0, .slice none 0 0, .int .i64 0] := (by have := (Bx.new (w.alloc (Obj.cells #[(.slice A1 n1 c1), .int .i64 m.pc, (.slice A2 n2 c2), .int .i64 m.save, .bool m.lets, .bool m.waits, .int .i64 m.halt, (.slice A3 n3 c3), (.slice A4 n4 c4), .int .i64 m.count] 51)) #[.slice none 0 0, .int .i64 0, .slice none 0 0, .int .i64 0, .bool false, .bool false, .int .i64 0, .slice none 0 0, .slice none 0 0, .int .i64 0] 51); simpa using this)
    have hFres_0 : ∀ oo, (((w.alloc (Obj.cells #[(.slice A1 n1 c1), .int .i64 m.pc, (.slice A2 n2 c2), .int .i64 m.save, .bool m.lets, .bool m.waits, .int .i64 m.halt, (.slice A3 n3 c3), (.slice A4 n4 c4), .int .i64 m.count] 51)).alloc (Obj.cells #[.slice none 0 0, .int .i64 0, .slice none 0 0, .int .i64 0, .bool false, .bool false, .int .i64 0, .slice none 0 0, .slice none 0 0, .int .i64 0] 51))).frozen? ⟨w.heap.size + 1, oo, none⟩ = false := fun oo => by simp
    generalize ((w.alloc (Obj.cells #[(.slice A1 n1 c1), .int .i64 m.pc, (.slice A2 n2 c2), .int .i64 m.save, .bool m.lets, .bool m.waits, .int .i64 m.halt, (.slice A3 n3 c3), (.slice A4 n4 c4), .int .i64 m.count] 51)).alloc (Obj.cells #[.slice none 0 0, .int .i64 0, .slice none 0 0, .int .i64 0, .bool false, .bool false, .int .i64 0, .slice none 0 0, .slice none 0 0, .int .i64 0] 51)) = w0 at *
    have ym : w.heap.size < w0.heap.size := by omega
    have xm0 := hBm_0 0 _ rfl
    have xm1 := hBm_0 1 _ rfl
    have xm2 := hBm_0 2 _ rfl
    have xm3 := hBm_0 3 _ rfl
    have xm4 := hBm_0 4 _ rfl
    have xm5 := hBm_0 5 _ rfl
    have xm6 := hBm_0 6 _ rfl
    have xm7 := hBm_0 7 _ rfl
    have xm8 := hBm_0 8 _ rfl
    have xm9 := hBm_0 9 _ rfl
    have fm := hFm_0
    have yres : w.heap.size + 1 < w0.heap.size := by omega
    have xres0 := hBres_0 0 _ rfl
    have xres1 := hBres_0 1 _ rfl
    have xres2 := hBres_0 2 _ rfl
    have xres3 := hBres_0 3 _ rfl
    have xres4 := hBres_0 4 _ rfl
    have xres5 := hBres_0 5 _ rfl
    have xres6 := hBres_0 6 _ rfl
    have xres7 := hBres_0 7 _ rfl
    have xres8 := hBres_0 8 _ rfl
    have xres9 := hBres_0 9 _ rfl
    have fres := hFres_0
    go_wp2_with fail
    refine (l3Next_any ({ m with lets := true } : MchMach) (m.pc + 1) (by first | omega | (simp; omega)) (by first | omega | (simp; omega)) (by first | omega | (simp; omega)) (by first | omega | (simp; omega)) _ _ _ _ _ _ _ _ _ _ _ _ _).mono ?_
    rintro e w1 ⟨rfl, hy⟩
    clear xm0 xm1 xm2 xm3 xm4 xm5 xm6 xm7 xm8 xm9 ym
    clear fm
    clear xres0 xres1 xres2 xres3 xres4 xres5 xres6 xres7 xres8 xres9 yres
    clear fres
    have hs1 := hy.size
    try simp at hs1
    have he1 : Ext w w1 := Ext.trans (Ext.hold he0) hy
    have hBres_1 : Bx w1 (w.heap.size + 1) [.slice none 0 0, .int .i64 0, .slice none 0 0, .int .i64 0, .bool false, .bool false, .int .i64 0, .slice none 0 0, .slice none 0 0, .int .i64 0] := hy.bx (Bx.hold hBres_0) (by first | omega | (simp; done) | (simp; omega))
    have hFres_1 : ∀ oo, w1.frozen? ⟨w.heap.size + 1, oo, none⟩ = false := fun oo => (hy.frozen (by first | omega | (simp; done) | (simp; omega))).trans ((fz_hold hFres_0) oo)
    try clear hBres_0 hFres_0
    clear hy
    have yres : w.heap.size + 1 < w1.heap.size := by omega
    have xres0 := hBres_1 0 _ rfl
    have xres1 := hBres_1 1 _ rfl
    have xres2 := hBres_1 2 _ rfl
    have xres3 := hBres_1 3 _ rfl
    have xres4 := hBres_1 4 _ rfl
    have xres5 := hBres_1 5 _ rfl
    have xres6 := hBres_1 6 _ rfl
    have xres7 := hBres_1 7 _ rfl
    have xres8 := hBres_1 8 _ rfl
    have xres9 := hBres_1 9 _ rfl
    have fres := hFres_1
    go_wp2
    refine bodyPost_ret (v := .agg #[(.slice A1 n1 c1), .int .i64 ((({ m with lets := true } : MchMach).next (m.pc + 1)).pc), (.slice A2 n2 c2), .int .i64 ((({ m with lets := true } : MchMach).next (m.pc + 1)).save), .bool (({ m with lets := true } : MchMach).next (m.pc + 1)).lets, .bool (({ m with lets := true } : MchMach).next (m.pc + 1)).waits, .int .i64 ((({ m with lets := true } : MchMach).next (m.pc + 1)).halt), (.slice A3 n3 c3), (.slice A4 n4 c4), .int .i64 ((({ m with lets := true } : MchMach).next (m.pc + 1)).count)]) (by simp [results, Tryd.results111, go_sem, xres0, xres1, xres2, xres3, xres4, xres5, xres6, xres7, xres8, xres9]; try exact ⟨rfl, rfl, rfl, rfl, rfl, rfl⟩) rfl ⟨by rw [HV.out], Ext.hold he1⟩
  by_cases hk3 : k = 3
  · 
    subst hk3
    have HV := hide (show mStop m 3 = ({ m with lets := false } : MchMach).next (m.pc + 1) by unfold mStop; rfl)
    go_enter Tryd.func111, Tryd.ntmps111
    go_upto_region 1 with fail
    have he0 : Ext w ((w.alloc (Obj.cells #[(.slice A1 n1 c1), .int .i64 m.pc, (.slice A2 n2 c2), .int .i64 m.save, .bool m.lets, .bool m.waits, .int .i64 m.halt, (.slice A3 n3 c3), (.slice A4 n4 c4), .int .i64 m.count] 51)).alloc (Obj.cells #[.slice none 0 0, .int .i64 0, .slice none 0 0, .int .i64 0, .bool false, .bool false, .int .i64 0, .slice none 0 0, .slice none 0 0, .int .i64 0] 51)) := (Ext.auto)
    have hs0 : w.heap.size + 2 ≤ (((w.alloc (Obj.cells #[(.slice A1 n1 c1), .int .i64 m.pc, (.slice A2 n2 c2), .int .i64 m.save, .bool m.lets, .bool m.waits, .int .i64 m.halt, (.slice A3 n3 c3), (.slice A4 n4 c4), .int .i64 m.count] 51)).alloc (Obj.cells #[.slice none 0 0, .int .i64 0, .slice none 0 0, .int .i64 0, .bool false, .bool false, .int .i64 0, .slice none 0 0, .slice none 0 0, .int .i64 0] 51))).heap.size := by simp
    have hq0 := hide (show (((w.alloc (Obj.cells #[(.slice A1 n1 c1), .int .i64 m.pc, (.slice A2 n2 c2), .int .i64 m.save, .bool m.lets, .bool m.waits, .int .i64 m.halt, (.slice A3 n3 c3), (.slice A4 n4 c4), .int .i64 m.count] 51)).alloc (Obj.cells #[.slice none 0 0, .int .i64 0, .slice none 0 0, .int .i64 0, .bool false, .bool false, .int .i64 0, .slice none 0 0, .slice none 0 0, .int .i64 0] 51))).heap.size = w.heap.size + 2 by simp)
    have hBm_0 : Bx ((w.alloc (Obj.cells #[(.slice A1 n1 c1), .int .i64 m.pc, (.slice A2 n2 c2), .int .i64 m.save, .bool m.lets, .bool m.waits, .int .i64 m.halt, (.slice A3 n3 c3), (.slice A4 n4 c4), .int .i64 m.count] 51)).alloc (Obj.cells #[.slice none 0 0, .int .i64 0, .slice none 0 0, .int .i64 0, .bool false, .bool false, .int .i64 0, .slice none 0 0, .slice none 0 0, .int .i64 0] 51)) (w.heap.size) [(.slice A1 n1 c1), .int .i64 m.pc, (.slice A2 n2 c2), .int .i64 m.save, .bool m.lets, .bool m.waits, .int .i64 m.halt, (.slice A3 n3 c3), (.slice A4 n4 c4), .int .i64 m.count] := (by have := (Bx.alloc (Bx.new w #[(.slice A1 n1 c1), .int .i64 m.pc, (.slice A2 n2 c2), .int .i64 m.save, .bool m.lets, .bool m.waits, .int .i64 m.halt, (.slice A3 n3 c3), (.slice A4 n4 c4), .int .i64 m.count] 51) (by simp) #[.slice none 0 0, .int .i64 0, .slice none 0 0, .int .i64 0, .bool false, .bool false, .int .i64 0, .slice none 0 0, .slice none 0 0, .int .i64 0] 51); simpa using this)
    have hFm_0 : ∀ oo, (((w.alloc (Obj.cells #[(.slice A1 n1 c1), .int .i64 m.pc, (.slice A2 n2 c2), .int .i64 m.save, .bool m.lets, .bool m.waits, .int .i64 m.halt, (.slice A3 n3 c3), (.slice A4 n4 c4), .int .i64 m.count] 51)).alloc (Obj.cells #[.slice none 0 0, .int .i64 0, .slice none 0 0, .int .i64 0, .bool false, .bool false, .int .i64 0, .slice none 0 0, .slice none 0 0, .int .i64 0] 51))).frozen? ⟨w.heap.size, oo, none⟩ = false := fun oo => by simp
    have hBres_0 : Bx ((w.alloc (Obj.cells #[(.slice A1 n1 c1), .int .i64 m.pc, (.slice A2 n2 c2), .int .i64 m.save, .bool m.lets, .bool m.waits, .int .i64 m.halt, (.slice A3 n3 c3), (.slice A4 n4 c4), .int .i64 m.count] 51)).alloc (Obj.cells #[.slice none 0 0, .int .i64 0, .slice none 0 0, .int .i64 0, .bool false, .bool false, .int .i64 0, .slice none 0 0, .slice none 0 0, .int .i64 0] 51)) (w.heap.size + 1) [.slice none 0 0, .int .i64 0, .slice none 0 0, .int .i64 0, .bool false, .bool false, .int .i64 0, .slice none 0 0, .slice none 0 0, .int .i64 0] := (by have := (Bx.new (w.alloc (Obj.cells #[(.slice A1 n1 c1), .int .i64 m.pc, (.slice A2 n2 c2), .int .i64 m.save, .bool m.lets, .bool m.waits, .int .i64 m.halt, (.slice A3 n3 c3), (.slice A4 n4 c4), .int .i64 m.count] 51)) #[.slice none 0 0, .int .i64 0, .slice none 0 0, .int .i64 0, .bool false, .bool false, .int .i64 0, .slice none 0 0, .slice none 0 0, .int .i64 0] 51); simpa using this)
    have hFres_0 : ∀ oo, (((w.alloc (Obj.cells #[(.slice A1 n1 c1), .int .i64 m.pc, (.slice A2 n2 c2), .int .i64 m.save, .bool m.lets, .bool m.waits, .int .i64 m.halt, (.slice A3 n3 c3), (.slice A4 n4 c4), .int .i64 m.count] 51)).alloc (Obj.cells #[.slice none 0 0, .int .i64 0, .slice none 0 0, .int .i64 0, .bool false, .bool false, .int .i64 0, .slice none 0 0, .slice none 0 0, .int .i64 0] 51))).frozen? ⟨w.heap.size + 1, oo, none⟩ = false := fun oo => by simp
    generalize ((w.alloc (Obj.cells #[(.slice A1 n1 c1), .int .i64 m.pc, (.slice A2 n2 c2), .int .i64 m.save, .bool m.lets, .bool m.waits, .int .i64 m.halt, (.slice A3 n3 c3), (.slice A4 n4 c4), .int .i64 m.count] 51)).alloc (Obj.cells #[.slice none 0 0, .int .i64 0, .slice none 0 0, .int .i64 0, .bool false, .bool false, .int .i64 0, .slice none 0 0, .slice none 0 0, .int .i64 0] 51)) = w0 at *
    have ym : w.heap.size < w0.heap.size := by omega
    have xm0 := hBm_0 0 _ rfl
    have xm1 := hBm_0 1 _ rfl
    have xm2 := hBm_0 2 _ rfl
    have xm3 := hBm_0 3 _ rfl
    have xm4 := hBm_0 4 _ rfl
    have xm5 := hBm_0 5 _ rfl
    have xm6 := hBm_0 6 _ rfl
    have xm7 := hBm_0 7 _ rfl
    have xm8 := hBm_0 8 _ rfl
    have xm9 := hBm_0 9 _ rfl
    have fm := hFm_0
    have yres : w.heap.size + 1 < w0.heap.size := by omega
    have xres0 := hBres_0 0 _ rfl
    have xres1 := hBres_0 1 _ rfl
    have xres2 := hBres_0 2 _ rfl
    have xres3 := hBres_0 3 _ rfl
    have xres4 := hBres_0 4 _ rfl
    have xres5 := hBres_0 5 _ rfl
    have xres6 := hBres_0 6 _ rfl
    have xres7 := hBres_0 7 _ rfl
    have xres8 := hBres_0 8 _ rfl
    have xres9 := hBres_0 9 _ rfl
    have fres := hFres_0
    go_wp2_with fail
    refine (l3Next_any ({ m with lets := false } : MchMach) (m.pc + 1) (by first | omega | (simp; omega)) (by first | omega | (simp; omega)) (by first | omega | (simp; omega)) (by first | omega | (simp; omega)) _ _ _ _ _ _ _ _ _ _ _ _ _).mono ?_
    rintro e w1 ⟨rfl, hy⟩
    clear xm0 xm1 xm2 xm3 xm4 xm5 xm6 xm7 xm8 xm9 ym
    clear fm
    clear xres0 xres1 xres2 xres3 xres4 xres5 xres6 xres7 xres8 xres9 yres
    clear fres
    have hs1 := hy.size
    try simp at hs1
    have he1 : Ext w w1 := Ext.trans (Ext.hold he0) hy
    have hBres_1 : Bx w1 (w.heap.size + 1) [.slice none 0 0, .int .i64 0, .slice none 0 0, .int .i64 0, .bool false, .bool false, .int .i64 0, .slice none 0 0, .slice none 0 0, .int .i64 0] := hy.bx (Bx.hold hBres_0) (by first | omega | (simp; done) | (simp; omega))
    have hFres_1 : ∀ oo, w1.frozen? ⟨w.heap.size + 1, oo, none⟩ = false := fun oo => (hy.frozen (by first | omega | (simp; done) | (simp; omega))).trans ((fz_hold hFres_0) oo)
    try clear hBres_0 hFres_0
    clear hy
    have yres : w.heap.size + 1 < w1.heap.size := by omega
    have xres0 := hBres_1 0 _ rfl
    have xres1 := hBres_1 1 _ rfl
    have xres2 := hBres_1 2 _ rfl
    have xres3 := hBres_1 3 _ rfl
    have xres4 := hBres_1 4 _ rfl
    have xres5 := hBres_1 5 _ rfl
    have xres6 := hBres_1 6 _ rfl
    have xres7 := hBres_1 7 _ rfl
    have xres8 := hBres_1 8 _ rfl
    have xres9 := hBres_1 9 _ rfl
    have fres := hFres_1
    go_wp2
    refine bodyPost_ret (v := .agg #[(.slice A1 n1 c1), .int .i64 ((({ m with lets := false } : MchMach).next (m.pc + 1)).pc), (.slice A2 n2 c2), .int .i64 ((({ m with lets := false } : MchMach).next (m.pc + 1)).save), .bool (({ m with lets := false } : MchMach).next (m.pc + 1)).lets, .bool (({ m with lets := false } : MchMach).next (m.pc + 1)).waits, .int .i64 ((({ m with lets := false } : MchMach).next (m.pc + 1)).halt), (.slice A3 n3 c3), (.slice A4 n4 c4), .int .i64 ((({ m with lets := false } : MchMach).next (m.pc + 1)).count)]) (by simp [results, Tryd.results111, go_sem, xres0, xres1, xres2, xres3, xres4, xres5, xres6, xres7, xres8, xres9]; try exact ⟨rfl, rfl, rfl, rfl, rfl, rfl⟩) rfl ⟨by rw [HV.out], Ext.hold he1⟩
  have HV := hide (show mStop m k = ({ m with halt := 1 } : MchMach).next (m.pc + 1) by unfold mStop; rw [if_neg hk1, if_neg hk2, if_neg hk3])
  have q1 : (k == 1) = false := by simp [hk1]
  have q2 : (k == 2) = false := by simp [hk2]
  have q3 : (k == 3) = false := by simp [hk3]
  go_enter Tryd.func111, Tryd.ntmps111
  go_upto_region 1 with fail
  have he0 : Ext w ((w.alloc (Obj.cells #[(.slice A1 n1 c1), .int .i64 m.pc, (.slice A2 n2 c2), .int .i64 m.save, .bool m.lets, .bool m.waits, .int .i64 m.halt, (.slice A3 n3 c3), (.slice A4 n4 c4), .int .i64 m.count] 51)).alloc (Obj.cells #[.slice none 0 0, .int .i64 0, .slice none 0 0, .int .i64 0, .bool false, .bool false, .int .i64 0, .slice none 0 0, .slice none 0 0, .int .i64 0] 51)) := (Ext.auto)
  have hs0 : w.heap.size + 2 ≤ (((w.alloc (Obj.cells #[(.slice A1 n1 c1), .int .i64 m.pc, (.slice A2 n2 c2), .int .i64 m.save, .bool m.lets, .bool m.waits, .int .i64 m.halt, (.slice A3 n3 c3), (.slice A4 n4 c4), .int .i64 m.count] 51)).alloc (Obj.cells #[.slice none 0 0, .int .i64 0, .slice none 0 0, .int .i64 0, .bool false, .bool false, .int .i64 0, .slice none 0 0, .slice none 0 0, .int .i64 0] 51))).heap.size := by simp
  have hq0 := hide (show (((w.alloc (Obj.cells #[(.slice A1 n1 c1), .int .i64 m.pc, (.slice A2 n2 c2), .int .i64 m.save, .bool m.lets, .bool m.waits, .int .i64 m.halt, (.slice A3 n3 c3), (.slice A4 n4 c4), .int .i64 m.count] 51)).alloc (Obj.cells #[.slice none 0 0, .int .i64 0, .slice none 0 0, .int .i64 0, .bool false, .bool false, .int .i64 0, .slice none 0 0, .slice none 0 0, .int .i64 0] 51))).heap.size = w.heap.size + 2 by simp)
  have hBm_0 : Bx ((w.alloc (Obj.cells #[(.slice A1 n1 c1), .int .i64 m.pc, (.slice A2 n2 c2), .int .i64 m.save, .bool m.lets, .bool m.waits, .int .i64 m.halt, (.slice A3 n3 c3), (.slice A4 n4 c4), .int .i64 m.count] 51)).alloc (Obj.cells #[.slice none 0 0, .int .i64 0, .slice none 0 0, .int .i64 0, .bool false, .bool false, .int .i64 0, .slice none 0 0, .slice none 0 0, .int .i64 0] 51)) (w.heap.size) [(.slice A1 n1 c1), .int .i64 m.pc, (.slice A2 n2 c2), .int .i64 m.save, .bool m.lets, .bool m.waits, .int .i64 m.halt, (.slice A3 n3 c3), (.slice A4 n4 c4), .int .i64 m.count] := (by have := (Bx.alloc (Bx.new w #[(.slice A1 n1 c1), .int .i64 m.pc, (.slice A2 n2 c2), .int .i64 m.save, .bool m.lets, .bool m.waits, .int .i64 m.halt, (.slice A3 n3 c3), (.slice A4 n4 c4), .int .i64 m.count] 51) (by simp) #[.slice none 0 0, .int .i64 0, .slice none 0 0, .int .i64 0, .bool false, .bool false, .int .i64 0, .slice none 0 0, .slice none 0 0, .int .i64 0] 51); simpa using this)
  have hFm_0 : ∀ oo, (((w.alloc (Obj.cells #[(.slice A1 n1 c1), .int .i64 m.pc, (.slice A2 n2 c2), .int .i64 m.save, .bool m.lets, .bool m.waits, .int .i64 m.halt, (.slice A3 n3 c3), (.slice A4 n4 c4), .int .i64 m.count] 51)).alloc (Obj.cells #[.slice none 0 0, .int .i64 0, .slice none 0 0, .int .i64 0, .bool false, .bool false, .int .i64 0, .slice none 0 0, .slice none 0 0, .int .i64 0] 51))).frozen? ⟨w.heap.size, oo, none⟩ = false := fun oo => by simp
  have hBres_0 : Bx ((w.alloc (Obj.cells #[(.slice A1 n1 c1), .int .i64 m.pc, (.slice A2 n2 c2), .int .i64 m.save, .bool m.lets, .bool m.waits, .int .i64 m.halt, (.slice A3 n3 c3), (.slice A4 n4 c4), .int .i64 m.count] 51)).alloc (Obj.cells #[.slice none 0 0, .int .i64 0, .slice none 0 0, .int .i64 0, .bool false, .bool false, .int .i64 0, .slice none 0 0, .slice none 0 0, .int .i64 0] 51)) (w.heap.size + 1) [.slice none 0 0, .int .i64 0, .slice none 0 0, .int .i64 0, .bool false, .bool false, .int .i64 0, .slice none 0 0, .slice none 0 0, .int .i64 0] := (by have := (Bx.new (w.alloc (Obj.cells #[(.slice A1 n1 c1), .int .i64 m.pc, (.slice A2 n2 c2), .int .i64 m.save, .bool m.lets, .bool m.waits, .int .i64 m.halt, (.slice A3 n3 c3), (.slice A4 n4 c4), .int .i64 m.count] 51)) #[.slice none 0 0, .int .i64 0, .slice none 0 0, .int .i64 0, .bool false, .bool false, .int .i64 0, .slice none 0 0, .slice none 0 0, .int .i64 0] 51); simpa using this)
  have hFres_0 : ∀ oo, (((w.alloc (Obj.cells #[(.slice A1 n1 c1), .int .i64 m.pc, (.slice A2 n2 c2), .int .i64 m.save, .bool m.lets, .bool m.waits, .int .i64 m.halt, (.slice A3 n3 c3), (.slice A4 n4 c4), .int .i64 m.count] 51)).alloc (Obj.cells #[.slice none 0 0, .int .i64 0, .slice none 0 0, .int .i64 0, .bool false, .bool false, .int .i64 0, .slice none 0 0, .slice none 0 0, .int .i64 0] 51))).frozen? ⟨w.heap.size + 1, oo, none⟩ = false := fun oo => by simp
  generalize ((w.alloc (Obj.cells #[(.slice A1 n1 c1), .int .i64 m.pc, (.slice A2 n2 c2), .int .i64 m.save, .bool m.lets, .bool m.waits, .int .i64 m.halt, (.slice A3 n3 c3), (.slice A4 n4 c4), .int .i64 m.count] 51)).alloc (Obj.cells #[.slice none 0 0, .int .i64 0, .slice none 0 0, .int .i64 0, .bool false, .bool false, .int .i64 0, .slice none 0 0, .slice none 0 0, .int .i64 0] 51)) = w0 at *
  have ym : w.heap.size < w0.heap.size := by omega
  have xm0 := hBm_0 0 _ rfl
  have xm1 := hBm_0 1 _ rfl
  have xm2 := hBm_0 2 _ rfl
  have xm3 := hBm_0 3 _ rfl
  have xm4 := hBm_0 4 _ rfl
  have xm5 := hBm_0 5 _ rfl
  have xm6 := hBm_0 6 _ rfl
  have xm7 := hBm_0 7 _ rfl
  have xm8 := hBm_0 8 _ rfl
  have xm9 := hBm_0 9 _ rfl
  have fm := hFm_0
  have yres : w.heap.size + 1 < w0.heap.size := by omega
  have xres0 := hBres_0 0 _ rfl
  have xres1 := hBres_0 1 _ rfl
  have xres2 := hBres_0 2 _ rfl
  have xres3 := hBres_0 3 _ rfl
  have xres4 := hBres_0 4 _ rfl
  have xres5 := hBres_0 5 _ rfl
  have xres6 := hBres_0 6 _ rfl
  have xres7 := hBres_0 7 _ rfl
  have xres8 := hBres_0 8 _ rfl
  have xres9 := hBres_0 9 _ rfl
  have fres := hFres_0
  go_wp2_with fail
  refine (l3Halt_any m 1 _ _ _ _ _ _ _ _ _ _ _ _ _).mono ?_
  rintro e w1 ⟨rfl, hy⟩
  clear xm0 xm1 xm2 xm3 xm4 xm5 xm6 xm7 xm8 xm9 ym
  clear fm
  clear xres0 xres1 xres2 xres3 xres4 xres5 xres6 xres7 xres8 xres9 yres
  clear fres
  have hs1 := hy.size
  try simp at hs1
  have he1 : Ext w w1 := Ext.trans (Ext.hold he0) hy
  have hBm_1 : Bx w1 (w.heap.size) [(.slice A1 n1 c1), .int .i64 m.pc, (.slice A2 n2 c2), .int .i64 m.save, .bool m.lets, .bool m.waits, .int .i64 m.halt, (.slice A3 n3 c3), (.slice A4 n4 c4), .int .i64 m.count] := hy.bx (Bx.hold hBm_0) (by first | omega | (simp; done) | (simp; omega))
  have hFm_1 : ∀ oo, w1.frozen? ⟨w.heap.size, oo, none⟩ = false := fun oo => (hy.frozen (by first | omega | (simp; done) | (simp; omega))).trans ((fz_hold hFm_0) oo)
  have hBres_1 : Bx w1 (w.heap.size + 1) [.slice none 0 0, .int .i64 0, .slice none 0 0, .int .i64 0, .bool false, .bool false, .int .i64 0, .slice none 0 0, .slice none 0 0, .int .i64 0] := hy.bx (Bx.hold hBres_0) (by first | omega | (simp; done) | (simp; omega))
  have hFres_1 : ∀ oo, w1.frozen? ⟨w.heap.size + 1, oo, none⟩ = false := fun oo => (hy.frozen (by first | omega | (simp; done) | (simp; omega))).trans ((fz_hold hFres_0) oo)
  try clear hBm_0 hFm_0 hBres_0 hFres_0
  clear hy
  have ym : w.heap.size < w1.heap.size := by omega
  have xm0 := hBm_1 0 _ rfl
  have xm1 := hBm_1 1 _ rfl
  have xm2 := hBm_1 2 _ rfl
  have xm3 := hBm_1 3 _ rfl
  have xm4 := hBm_1 4 _ rfl
  have xm5 := hBm_1 5 _ rfl
  have xm6 := hBm_1 6 _ rfl
  have xm7 := hBm_1 7 _ rfl
  have xm8 := hBm_1 8 _ rfl
  have xm9 := hBm_1 9 _ rfl
  have fm := hFm_1
  have yres : w.heap.size + 1 < w1.heap.size := by omega
  have xres0 := hBres_1 0 _ rfl
  have xres1 := hBres_1 1 _ rfl
  have xres2 := hBres_1 2 _ rfl
  have xres3 := hBres_1 3 _ rfl
  have xres4 := hBres_1 4 _ rfl
  have xres5 := hBres_1 5 _ rfl
  have xres6 := hBres_1 6 _ rfl
  have xres7 := hBres_1 7 _ rfl
  have xres8 := hBres_1 8 _ rfl
  have xres9 := hBres_1 9 _ rfl
  have fres := hFres_1
  go_wp2_with fail
  refine (l3Next_any ({ m with halt := 1 } : MchMach) (m.pc + 1) (by first | omega | (simp; omega)) (by first | omega | (simp; omega)) (by first | omega | (simp; omega)) (by first | omega | (simp; omega)) _ _ _ _ _ _ _ _ _ _ _ _ _).mono ?_
  rintro e w2 ⟨rfl, hy⟩
  clear xm0 xm1 xm2 xm3 xm4 xm5 xm6 xm7 xm8 xm9 ym
  clear fm
  clear xres0 xres1 xres2 xres3 xres4 xres5 xres6 xres7 xres8 xres9 yres
  clear fres
  have hs2 := hy.size
  try simp at hs2
  have he2 : Ext w w2 := Ext.trans (Ext.hold he1) hy
  have hBres_2 : Bx w2 (w.heap.size + 1) [.slice none 0 0, .int .i64 0, .slice none 0 0, .int .i64 0, .bool false, .bool false, .int .i64 0, .slice none 0 0, .slice none 0 0, .int .i64 0] := hy.bx (Bx.hold hBres_1) (by first | omega | (simp; done) | (simp; omega))
  have hFres_2 : ∀ oo, w2.frozen? ⟨w.heap.size + 1, oo, none⟩ = false := fun oo => (hy.frozen (by first | omega | (simp; done) | (simp; omega))).trans ((fz_hold hFres_1) oo)
  try clear hBres_1 hFres_1
  clear hy
  have yres : w.heap.size + 1 < w2.heap.size := by omega
  have xres0 := hBres_2 0 _ rfl
  have xres1 := hBres_2 1 _ rfl
  have xres2 := hBres_2 2 _ rfl
  have xres3 := hBres_2 3 _ rfl
  have xres4 := hBres_2 4 _ rfl
  have xres5 := hBres_2 5 _ rfl
  have xres6 := hBres_2 6 _ rfl
  have xres7 := hBres_2 7 _ rfl
  have xres8 := hBres_2 8 _ rfl
  have xres9 := hBres_2 9 _ rfl
  have fres := hFres_2
  go_wp2
  refine bodyPost_ret (v := .agg #[(.slice A1 n1 c1), .int .i64 ((({ m with halt := 1 } : MchMach).next (m.pc + 1)).pc), (.slice A2 n2 c2), .int .i64 ((({ m with halt := 1 } : MchMach).next (m.pc + 1)).save), .bool (({ m with halt := 1 } : MchMach).next (m.pc + 1)).lets, .bool (({ m with halt := 1 } : MchMach).next (m.pc + 1)).waits, .int .i64 ((({ m with halt := 1 } : MchMach).next (m.pc + 1)).halt), (.slice A3 n3 c3), (.slice A4 n4 c4), .int .i64 ((({ m with halt := 1 } : MchMach).next (m.pc + 1)).count)]) (by simp [results, Tryd.results111, go_sem, xres0, xres1, xres2, xres3, xres4, xres5, xres6, xres7, xres8, xres9]; try exact ⟨rfl, rfl, rfl, rfl, rfl, rfl⟩) rfl ⟨by rw [HV.out], Ext.hold he2⟩

end Go.Proofs.YtokibcicoomceaaDoor
