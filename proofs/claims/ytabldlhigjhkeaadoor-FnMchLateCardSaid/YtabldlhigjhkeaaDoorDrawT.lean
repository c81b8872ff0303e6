/-
  What the laws on machines draw.
-/
import Derived.Test.YtabldlhigjhkeaaDoorDrawR
import Derived.Deep.DeepCutAuto
namespace Go.Proofs.YtabldlhigjhkeaaDoor
open Go.RowKit

set_option linter.unusedVariables false
set_option linter.unusedSimpArgs false
set_option maxRecDepth 100000

def DStep (w : World) (e : Ending) (w' : World) : Prop := ∃ (m : MchMach) (A1 A2 A3 A4 : Option Addr) (c1 c2 c3 c4 : Nat) (b : Bool), e = .returned (.tuple #[.agg #[(.slice A1 m.regs.length c1), .int .i64 m.pc, (.slice A2 m.mem.length c2), .int .i64 m.save, .bool m.lets, .bool m.waits, .int .i64 m.halt, (.slice A3 m.ins.length c3), (.slice A4 m.outs.length c4), .int .i64 m.count], .bool b]) ∧ (m.regs.length ≤ 5 ∧ m.mem.length ≤ 64 ∧ m.ins.length ≤ 4 ∧ m.outs.length ≤ 61) ∧ Sl w' (Old w') (.slice A1 m.regs.length c1) m.regs ∧ Sl w' (Old w') (.slice A2 m.mem.length c2) m.mem ∧ Sl w' (Old w') (.slice A3 m.ins.length c3) m.ins ∧ Sl w' (Old w') (.slice A4 m.outs.length c4) m.outs ∧ Ext w w'
def DRun (w : World) (e : Ending) (w' : World) : Prop := ∃ (m : MchMach) (A1 A2 A3 A4 A5 : Option Addr) (c1 c2 c3 c4 c5 : Nat) (l : List Int) (n : Int), e = .returned (.tuple #[.agg #[(.slice A1 m.regs.length c1), .int .i64 m.pc, (.slice A2 m.mem.length c2), .int .i64 m.save, .bool m.lets, .bool m.waits, .int .i64 m.halt, (.slice A3 m.ins.length c3), (.slice A4 m.outs.length c4), .int .i64 m.count], .slice A5 l.length c5, .int .i64 n]) ∧ (m.regs.length ≤ 5 ∧ m.mem.length ≤ 64 ∧ m.ins.length ≤ 4 ∧ m.outs.length ≤ 61) ∧ (l.length ≤ 5 ∧ (∀ x, x ∈ l → 0 ≤ x ∧ x < 50) ∧ -1 ≤ n ∧ n ≤ 401) ∧ Sl w' (Old w') (.slice A1 m.regs.length c1) m.regs ∧ Sl w' (Old w') (.slice A2 m.mem.length c2) m.mem ∧ Sl w' (Old w') (.slice A3 m.ins.length c3) m.ins ∧ Sl w' (Old w') (.slice A4 m.outs.length c4) m.outs ∧ Sl w' (Old w') (.slice A5 l.length c5) l ∧ Ext w w'

set_option maxHeartbeats 16000000 in
theorem drawMchStep_any (code : List UInt8) (v : Value) (w : World) (h : Sl w (Old w) v code) : Calls Tryd.prog 28 #[v] w fun e w' => DStep w e w' := by
  obtain ⟨Ac, cc, rfl, -, -⟩ := h.form
  go_enter Tryd.func28, Tryd.ntmps28
  go_upto_region 1 with fail
  have he0 : Ext w (w.alloc (Obj.cells #[.slice none 0 0, .int .i64 0, .slice none 0 0, .int .i64 0, .bool false, .bool false, .int .i64 0, .slice none 0 0, .slice none 0 0, .int .i64 0] 26)) := (Ext.auto)
  have hs0 : w.heap.size + 1 ≤ ((w.alloc (Obj.cells #[.slice none 0 0, .int .i64 0, .slice none 0 0, .int .i64 0, .bool false, .bool false, .int .i64 0, .slice none 0 0, .slice none 0 0, .int .i64 0] 26))).heap.size := by simp
  have hq0 := hide (show ((w.alloc (Obj.cells #[.slice none 0 0, .int .i64 0, .slice none 0 0, .int .i64 0, .bool false, .bool false, .int .i64 0, .slice none 0 0, .slice none 0 0, .int .i64 0] 26))).heap.size = w.heap.size + 1 by simp)
  have hBres_0 : Bx (w.alloc (Obj.cells #[.slice none 0 0, .int .i64 0, .slice none 0 0, .int .i64 0, .bool false, .bool false, .int .i64 0, .slice none 0 0, .slice none 0 0, .int .i64 0] 26)) (w.heap.size) [.slice none 0 0, .int .i64 0, .slice none 0 0, .int .i64 0, .bool false, .bool false, .int .i64 0, .slice none 0 0, .slice none 0 0, .int .i64 0] := (by have := (Bx.new w #[.slice none 0 0, .int .i64 0, .slice none 0 0, .int .i64 0, .bool false, .bool false, .int .i64 0, .slice none 0 0, .slice none 0 0, .int .i64 0] 26); simpa using this)
  have hFres_0 : ∀ oo, ((w.alloc (Obj.cells #[.slice none 0 0, .int .i64 0, .slice none 0 0, .int .i64 0, .bool false, .bool false, .int .i64 0, .slice none 0 0, .slice none 0 0, .int .i64 0] 26))).frozen? ⟨w.heap.size, oo, none⟩ = false := fun oo => by simp
  generalize (w.alloc (Obj.cells #[.slice none 0 0, .int .i64 0, .slice none 0 0, .int .i64 0, .bool false, .bool false, .int .i64 0, .slice none 0 0, .slice none 0 0, .int .i64 0] 26)) = w0 at *
  go_wp2_with fail
  refine (l20Open_any code _ _ (h.ext he0)).mono ?_
  rintro e w1 ⟨rfl, hR1, hy⟩
  have hs1 := hy.size
  try simp at hs1
  have he1 : Ext w w1 := Ext.trans (Ext.hold he0) hy
  have hBres_1 : Bx w1 (w.heap.size) [.slice none 0 0, .int .i64 0, .slice none 0 0, .int .i64 0, .bool false, .bool false, .int .i64 0, .slice none 0 0, .slice none 0 0, .int .i64 0] := hy.bx (Bx.hold hBres_0) (by first | omega | (simp; done) | (simp; omega))
  have hFres_1 : ∀ oo, w1.frozen? ⟨w.heap.size, oo, none⟩ = false := fun oo => (hy.frozen (by first | omega | (simp; done) | (simp; omega))).trans ((fz_hold hFres_0) oo)
  clear hBres_0 hFres_0
  have hrb1 := hR1.lt
  have hrw : w.heap.size < w0.heap.size := by omega
  have hT1 : Turn [w0.heap.size] w1 w1 := Turn.refl _ _
  generalize hrbn : w0.heap.size = rb at *
  clear hrbn
  have hrlt : rb < w1.heap.size := by omega
  go_wp2_with fail
  refine (l20MachOr_any rb (rb + 1) 0 _ hR1 (by omega) 14 (by omega) (by omega)).mono ?_
  intro e w2 hmp
  unfold OrPost at hmp
  obtain ⟨⟨m, A1, A2, A3, A4, c1, c2, c3, c4, rfl, hlens, s1, s2, s3, s4⟩, hR2, hy⟩ := hmp
  have hns : ∀ x, New w1 w2 x → x < w2.heap.size ∧ x ∉ [rb] := fun x hx => ⟨hx.2, by have := hx.1; simp; omega⟩
  have hs2 := hy.size
  try simp at hs2
  have he2 : Ext w w2 := hy.ext (Ext.hold he1) (by simp; omega)
  have hBres_2 : Bx w2 (w.heap.size) [.slice none 0 0, .int .i64 0, .slice none 0 0, .int .i64 0, .bool false, .bool false, .int .i64 0, .slice none 0 0, .slice none 0 0, .int .i64 0] := hy.bx (Bx.hold hBres_1) (by first | omega | (simp; done) | (simp; omega)) (by simp; omega)
  have hFres_2 : ∀ oo, w2.frozen? ⟨w.heap.size, oo, none⟩ = false := fun oo => (hy.frozen (by first | omega | (simp; done) | (simp; omega)) (by simp; omega)).trans ((fz_hold hFres_1) oo)
  clear hBres_1 hFres_1
  clear hy he1
  go_upto_region 3 with fail
  have s1 := s1.turn (Turn.of_ext (show Ext w2 (w2.alloc (Obj.cells #[(.slice A1 m.regs.length c1), .int .i64 m.pc, (.slice A2 m.mem.length c2), .int .i64 m.save, .bool m.lets, .bool m.waits, .int .i64 m.halt, (.slice A3 m.ins.length c3), (.slice A4 m.outs.length c4), .int .i64 m.count] 26)) from Ext.auto) [rb]) hns
  have s2 := s2.turn (Turn.of_ext (show Ext w2 (w2.alloc (Obj.cells #[(.slice A1 m.regs.length c1), .int .i64 m.pc, (.slice A2 m.mem.length c2), .int .i64 m.save, .bool m.lets, .bool m.waits, .int .i64 m.halt, (.slice A3 m.ins.length c3), (.slice A4 m.outs.length c4), .int .i64 m.count] 26)) from Ext.auto) [rb]) hns
  have s3 := s3.turn (Turn.of_ext (show Ext w2 (w2.alloc (Obj.cells #[(.slice A1 m.regs.length c1), .int .i64 m.pc, (.slice A2 m.mem.length c2), .int .i64 m.save, .bool m.lets, .bool m.waits, .int .i64 m.halt, (.slice A3 m.ins.length c3), (.slice A4 m.outs.length c4), .int .i64 m.count] 26)) from Ext.auto) [rb]) hns
  have s4 := s4.turn (Turn.of_ext (show Ext w2 (w2.alloc (Obj.cells #[(.slice A1 m.regs.length c1), .int .i64 m.pc, (.slice A2 m.mem.length c2), .int .i64 m.save, .bool m.lets, .bool m.waits, .int .i64 m.halt, (.slice A3 m.ins.length c3), (.slice A4 m.outs.length c4), .int .i64 m.count] 26)) from Ext.auto) [rb]) hns
  have hR3 : Rdr rb _ _ (w2.alloc (Obj.cells #[(.slice A1 m.regs.length c1), .int .i64 m.pc, (.slice A2 m.mem.length c2), .int .i64 m.save, .bool m.lets, .bool m.waits, .int .i64 m.halt, (.slice A3 m.ins.length c3), (.slice A4 m.outs.length c4), .int .i64 m.count] 26)) := Rdr.hold hR2
  have he3 : Ext w (w2.alloc (Obj.cells #[(.slice A1 m.regs.length c1), .int .i64 m.pc, (.slice A2 m.mem.length c2), .int .i64 m.save, .bool m.lets, .bool m.waits, .int .i64 m.halt, (.slice A3 m.ins.length c3), (.slice A4 m.outs.length c4), .int .i64 m.count] 26)) := Ext.hold he2
  have hs3 : w2.heap.size + 1 ≤ ((w2.alloc (Obj.cells #[(.slice A1 m.regs.length c1), .int .i64 m.pc, (.slice A2 m.mem.length c2), .int .i64 m.save, .bool m.lets, .bool m.waits, .int .i64 m.halt, (.slice A3 m.ins.length c3), (.slice A4 m.outs.length c4), .int .i64 m.count] 26))).heap.size := by simp
  have hBres_3 : Bx (w2.alloc (Obj.cells #[(.slice A1 m.regs.length c1), .int .i64 m.pc, (.slice A2 m.mem.length c2), .int .i64 m.save, .bool m.lets, .bool m.waits, .int .i64 m.halt, (.slice A3 m.ins.length c3), (.slice A4 m.outs.length c4), .int .i64 m.count] 26)) (w.heap.size) [.slice none 0 0, .int .i64 0, .slice none 0 0, .int .i64 0, .bool false, .bool false, .int .i64 0, .slice none 0 0, .slice none 0 0, .int .i64 0] := Bx.hold hBres_2
  have hFres_3 : ∀ oo, (w2.alloc (Obj.cells #[(.slice A1 m.regs.length c1), .int .i64 m.pc, (.slice A2 m.mem.length c2), .int .i64 m.save, .bool m.lets, .bool m.waits, .int .i64 m.halt, (.slice A3 m.ins.length c3), (.slice A4 m.outs.length c4), .int .i64 m.count] 26)).frozen? ⟨w.heap.size, oo, none⟩ = false := fz_hold hFres_2
  have hBx_3 : Bx (w2.alloc (Obj.cells #[(.slice A1 m.regs.length c1), .int .i64 m.pc, (.slice A2 m.mem.length c2), .int .i64 m.save, .bool m.lets, .bool m.waits, .int .i64 m.halt, (.slice A3 m.ins.length c3), (.slice A4 m.outs.length c4), .int .i64 m.count] 26)) (w2.heap.size) [(.slice A1 m.regs.length c1), .int .i64 m.pc, (.slice A2 m.mem.length c2), .int .i64 m.save, .bool m.lets, .bool m.waits, .int .i64 m.halt, (.slice A3 m.ins.length c3), (.slice A4 m.outs.length c4), .int .i64 m.count] := Bx.new w2 #[(.slice A1 m.regs.length c1), .int .i64 m.pc, (.slice A2 m.mem.length c2), .int .i64 m.save, .bool m.lets, .bool m.waits, .int .i64 m.halt, (.slice A3 m.ins.length c3), (.slice A4 m.outs.length c4), .int .i64 m.count] 26
  have hFx_3 : ∀ oo, (w2.alloc (Obj.cells #[(.slice A1 m.regs.length c1), .int .i64 m.pc, (.slice A2 m.mem.length c2), .int .i64 m.save, .bool m.lets, .bool m.waits, .int .i64 m.halt, (.slice A3 m.ins.length c3), (.slice A4 m.outs.length c4), .int .i64 m.count] 26)).frozen? ⟨w2.heap.size, oo, none⟩ = false := fz_new w2 #[(.slice A1 m.regs.length c1), .int .i64 m.pc, (.slice A2 m.mem.length c2), .int .i64 m.save, .bool m.lets, .bool m.waits, .int .i64 m.halt, (.slice A3 m.ins.length c3), (.slice A4 m.outs.length c4), .int .i64 m.count] 26 rfl
  generalize (w2.alloc (Obj.cells #[(.slice A1 m.regs.length c1), .int .i64 m.pc, (.slice A2 m.mem.length c2), .int .i64 m.save, .bool m.lets, .bool m.waits, .int .i64 m.halt, (.slice A3 m.ins.length c3), (.slice A4 m.outs.length c4), .int .i64 m.count] 26)) = w3 at *
  clear hBres_2 hFres_2
  have hns : ∀ x, New w1 w2 x → x < w3.heap.size ∧ x ∉ [rb] := fun x hx => ⟨by have := hx.2; omega, (hns x hx).2⟩
  have yx : w2.heap.size < w3.heap.size := by omega
  have xx0 := hBx_3 0 _ rfl
  have xx1 := hBx_3 1 _ rfl
  have xx2 := hBx_3 2 _ rfl
  have xx3 := hBx_3 3 _ rfl
  have xx4 := hBx_3 4 _ rfl
  have xx5 := hBx_3 5 _ rfl
  have xx6 := hBx_3 6 _ rfl
  have xx7 := hBx_3 7 _ rfl
  have xx8 := hBx_3 8 _ rfl
  have xx9 := hBx_3 9 _ rfl
  have fx := hFx_3
  have yres : w.heap.size < w3.heap.size := by omega
  have xres0 := hBres_3 0 _ rfl
  have xres1 := hBres_3 1 _ rfl
  have xres2 := hBres_3 2 _ rfl
  have xres3 := hBres_3 3 _ rfl
  have xres4 := hBres_3 4 _ rfl
  have xres5 := hBres_3 5 _ rfl
  have xres6 := hBres_3 6 _ rfl
  have xres7 := hBres_3 7 _ rfl
  have xres8 := hBres_3 8 _ rfl
  have xres9 := hBres_3 9 _ rfl
  have fres := hFres_3
  have hSx : ∀ w', Turn [rb, w.heap.size] w3 w' → ∀ oo, w'.cell? ⟨w2.heap.size, oo, none⟩ = w3.cell? ⟨w2.heap.size, oo, none⟩ := fun w' hx oo => hx.cell (by omega) (by simp; omega)
  refine wp_region_plan (fun w' => Turn [rb, w.heap.size] w3 w') 5 (.float 0 (.float 1 (.chain 2 (.float 3 (.chain 4 (.tail 5)))))) (by kernel_rfl) (by kernel_rfl) (Turn.of_ext (Ext.refl _).drew _) ?_
  iterate 2 ((refine Plan.float_step (v := ?_) rfl (by rfl) (fun _ _ _ h => h) (fun w' hSw => ?_) ?_; rotate_left; · (go_simp; try with_reducible rfl)); (try simp only [Act.put, List.setIfInBounds_toArray, List.set_cons_zero, List.set_cons_succ]))
  refine Plan.chain_step rfl (fun K hK => ?_)
  go_simp
  refine (pick_any rb _ _ _ (Rdr.hold hR3) (by omega) 3 (by omega) (by omega)).mono ?_
  rintro e w4 ⟨⟨n, rfl, ln, qn⟩, hR4, hy⟩
  refine hK.out _ _ (Turn.pre Ext.auto (hy.mono (by simp))) ?_
  clear hK
  (try simp only [Act.put, List.setIfInBounds_toArray, List.set_cons_zero, List.set_cons_succ])
  have s1 := (s1.turn (Turn.of_ext (show Ext w3 w3.drew from Ext.auto) [rb]) hns).turn hy hns
  have s2 := (s2.turn (Turn.of_ext (show Ext w3 w3.drew from Ext.auto) [rb]) hns).turn hy hns
  have s3 := (s3.turn (Turn.of_ext (show Ext w3 w3.drew from Ext.auto) [rb]) hns).turn hy hns
  have s4 := (s4.turn (Turn.of_ext (show Ext w3 w3.drew from Ext.auto) [rb]) hns).turn hy hns
  have hW4 : Turn [rb, w.heap.size] w3 w4 := Turn.pre Ext.auto (hy.mono (by simp))
  have hns : ∀ x, New w1 w2 x → x < w4.heap.size ∧ x ∉ [w.heap.size] := fun x hx => ⟨by have := hy.size; have := (hns x hx).1; (try simp at *); omega, by have := hx.1; simp; omega⟩
  clear xx0 xx1 xx2 xx3 xx4 xx5 xx6 xx7 xx8 xx9 yx
  clear fx
  clear xres0 xres1 xres2 xres3 xres4 xres5 xres6 xres7 xres8 xres9 yres
  clear fres
  have hs4 := hy.size
  try simp at hs4
  have he4 : Ext w w4 := hy.ext (Ext.hold he3) (by simp; omega)
  have hBres_4 : Bx w4 (w.heap.size) [.slice none 0 0, .int .i64 0, .slice none 0 0, .int .i64 0, .bool false, .bool false, .int .i64 0, .slice none 0 0, .slice none 0 0, .int .i64 0] := hy.bx (Bx.hold hBres_3) (by first | omega | (simp; done) | (simp; omega)) (by simp; omega)
  have hFres_4 : ∀ oo, w4.frozen? ⟨w.heap.size, oo, none⟩ = false := fun oo => (hy.frozen (by first | omega | (simp; done) | (simp; omega)) (by simp; omega)).trans ((fz_hold hFres_3) oo)
  have hBx_4 : Bx w4 (w2.heap.size) [(.slice A1 m.regs.length c1), .int .i64 m.pc, (.slice A2 m.mem.length c2), .int .i64 m.save, .bool m.lets, .bool m.waits, .int .i64 m.halt, (.slice A3 m.ins.length c3), (.slice A4 m.outs.length c4), .int .i64 m.count] := hy.bx (Bx.hold hBx_3) (by first | omega | (simp; done) | (simp; omega)) (by simp; omega)
  have hFx_4 : ∀ oo, w4.frozen? ⟨w2.heap.size, oo, none⟩ = false := fun oo => (hy.frozen (by first | omega | (simp; done) | (simp; omega)) (by simp; omega)).trans ((fz_hold hFx_3) oo)
  clear hBres_3 hFres_3 hBx_3 hFx_3
  clear hy
  have yx : w2.heap.size < w4.heap.size := by omega
  have xx0 := hBx_4 0 _ rfl
  have xx1 := hBx_4 1 _ rfl
  have xx2 := hBx_4 2 _ rfl
  have xx3 := hBx_4 3 _ rfl
  have xx4 := hBx_4 4 _ rfl
  have xx5 := hBx_4 5 _ rfl
  have xx6 := hBx_4 6 _ rfl
  have xx7 := hBx_4 7 _ rfl
  have xx8 := hBx_4 8 _ rfl
  have xx9 := hBx_4 9 _ rfl
  have fx := hFx_4
  have yres : w.heap.size < w4.heap.size := by omega
  have xres0 := hBres_4 0 _ rfl
  have xres1 := hBres_4 1 _ rfl
  have xres2 := hBres_4 2 _ rfl
  have xres3 := hBres_4 3 _ rfl
  have xres4 := hBres_4 4 _ rfl
  have xres5 := hBres_4 5 _ rfl
  have xres6 := hBres_4 6 _ rfl
  have xres7 := hBres_4 7 _ rfl
  have xres8 := hBres_4 8 _ rfl
  have xres9 := hBres_4 9 _ rfl
  have fres := hFres_4
  (refine Plan.float_step (v := ?_) rfl (by rfl) (fun _ _ _ h => h) (fun w' hSw => ?_) ?_; rotate_left; · (go_simp; try with_reducible rfl)); (try simp only [Act.put, List.setIfInBounds_toArray, List.set_cons_zero, List.set_cons_succ])
  refine Plan.chain_step rfl (fun K hK => ?_)
  go_simp
  have hTw : Turn [w.heap.size] w4 ((((((((((w4.setCell ⟨w.heap.size, 0, none⟩ ((.slice A1 m.regs.length c1))).setCell ⟨w.heap.size, 1, none⟩ (.int .i64 m.pc)).setCell ⟨w.heap.size, 2, none⟩ ((.slice A2 m.mem.length c2))).setCell ⟨w.heap.size, 3, none⟩ (.int .i64 m.save)).setCell ⟨w.heap.size, 4, none⟩ (.bool m.lets)).setCell ⟨w.heap.size, 5, none⟩ (.bool m.waits)).setCell ⟨w.heap.size, 6, none⟩ (.int .i64 m.halt)).setCell ⟨w.heap.size, 7, none⟩ ((.slice A3 m.ins.length c3))).setCell ⟨w.heap.size, 8, none⟩ ((.slice A4 m.outs.length c4))).setCell ⟨w.heap.size, 9, none⟩ (.int .i64 m.count)) := Turn.hold (Turn.refl _ _)
  refine hK.out _ _ (hW4.trans (Turn.hold (Turn.refl [w.heap.size] w4)) (by simp)) ?_
  clear hK
  (try simp only [Act.put, List.setIfInBounds_toArray, List.set_cons_zero, List.set_cons_succ])
  refine Plan.tail_step ?_
  simp only [List.drop_succ_cons, List.drop_zero]
  clear hSx
  have hBr := hBres_4.store10 rfl ((.slice A1 m.regs.length c1)) (.int .i64 m.pc) ((.slice A2 m.mem.length c2)) (.int .i64 m.save) (.bool m.lets) (.bool m.waits) (.int .i64 m.halt) ((.slice A3 m.ins.length c3)) ((.slice A4 m.outs.length c4)) (.int .i64 m.count)
  have xy0 := hBr 0 _ rfl
  have xy1 := hBr 1 _ rfl
  have xy2 := hBr 2 _ rfl
  have xy3 := hBr 3 _ rfl
  have xy4 := hBr 4 _ rfl
  have xy5 := hBr 5 _ rfl
  have xy6 := hBr 6 _ rfl
  have xy7 := hBr 7 _ rfl
  have xy8 := hBr 8 _ rfl
  have xy9 := hBr 9 _ rfl
  have ys : w.heap.size < ((((((((((w4.setCell ⟨w.heap.size, 0, none⟩ ((.slice A1 m.regs.length c1))).setCell ⟨w.heap.size, 1, none⟩ (.int .i64 m.pc)).setCell ⟨w.heap.size, 2, none⟩ ((.slice A2 m.mem.length c2))).setCell ⟨w.heap.size, 3, none⟩ (.int .i64 m.save)).setCell ⟨w.heap.size, 4, none⟩ (.bool m.lets)).setCell ⟨w.heap.size, 5, none⟩ (.bool m.waits)).setCell ⟨w.heap.size, 6, none⟩ (.int .i64 m.halt)).setCell ⟨w.heap.size, 7, none⟩ ((.slice A3 m.ins.length c3))).setCell ⟨w.heap.size, 8, none⟩ ((.slice A4 m.outs.length c4))).setCell ⟨w.heap.size, 9, none⟩ (.int .i64 m.count)).heap.size := by simp; omega
  go_wp2
  refine bodyPost_ret (v := .tuple #[.agg #[(.slice A1 m.regs.length c1), .int .i64 m.pc, (.slice A2 m.mem.length c2), .int .i64 m.save, .bool m.lets, .bool m.waits, .int .i64 m.halt, (.slice A3 m.ins.length c3), (.slice A4 m.outs.length c4), .int .i64 m.count], .bool (n == 0)]) (by simp [results, Tryd.results28, go_sem, xy0, xy1, xy2, xy3, xy4, xy5, xy6, xy7, xy8, xy9]) rfl ?_
  unfold DStep
  exact ⟨m, A1, A2, A3, A4, c1, c2, c3, c4, _, rfl, hlens, (s1.turn hTw hns).keep (fun _ _ _ => rfl) (fun b hb => by have := (hns b hb).1; show b < _; simp; omega), (s2.turn hTw hns).keep (fun _ _ _ => rfl) (fun b hb => by have := (hns b hb).1; show b < _; simp; omega), (s3.turn hTw hns).keep (fun _ _ _ => rfl) (fun b hb => by have := (hns b hb).1; show b < _; simp; omega), (s4.turn hTw hns).keep (fun _ _ _ => rfl) (fun b hb => by have := (hns b hb).1; show b < _; simp; omega), Ext.hold he4⟩

set_option maxHeartbeats 16000000 in
theorem drawMchRun_any (code : List UInt8) (v : Value) (w : World) (h : Sl w (Old w) v code) : Calls Tryd.prog 38 #[v] w fun e w' => DRun w e w' := by
  obtain ⟨Ac, cc, rfl, -, -⟩ := h.form
  go_enter Tryd.func38, Tryd.ntmps38
  go_upto_region 1 with fail
  have he0 : Ext w (w.alloc (Obj.cells #[.slice none 0 0, .int .i64 0, .slice none 0 0, .int .i64 0, .bool false, .bool false, .int .i64 0, .slice none 0 0, .slice none 0 0, .int .i64 0] 26)) := (Ext.auto)
  have hs0 : w.heap.size + 1 ≤ ((w.alloc (Obj.cells #[.slice none 0 0, .int .i64 0, .slice none 0 0, .int .i64 0, .bool false, .bool false, .int .i64 0, .slice none 0 0, .slice none 0 0, .int .i64 0] 26))).heap.size := by simp
  have hq0 := hide (show ((w.alloc (Obj.cells #[.slice none 0 0, .int .i64 0, .slice none 0 0, .int .i64 0, .bool false, .bool false, .int .i64 0, .slice none 0 0, .slice none 0 0, .int .i64 0] 26))).heap.size = w.heap.size + 1 by simp)
  have hBres_0 : Bx (w.alloc (Obj.cells #[.slice none 0 0, .int .i64 0, .slice none 0 0, .int .i64 0, .bool false, .bool false, .int .i64 0, .slice none 0 0, .slice none 0 0, .int .i64 0] 26)) (w.heap.size) [.slice none 0 0, .int .i64 0, .slice none 0 0, .int .i64 0, .bool false, .bool false, .int .i64 0, .slice none 0 0, .slice none 0 0, .int .i64 0] := (by have := (Bx.new w #[.slice none 0 0, .int .i64 0, .slice none 0 0, .int .i64 0, .bool false, .bool false, .int .i64 0, .slice none 0 0, .slice none 0 0, .int .i64 0] 26); simpa using this)
  have hFres_0 : ∀ oo, ((w.alloc (Obj.cells #[.slice none 0 0, .int .i64 0, .slice none 0 0, .int .i64 0, .bool false, .bool false, .int .i64 0, .slice none 0 0, .slice none 0 0, .int .i64 0] 26))).frozen? ⟨w.heap.size, oo, none⟩ = false := fun oo => by simp
  generalize (w.alloc (Obj.cells #[.slice none 0 0, .int .i64 0, .slice none 0 0, .int .i64 0, .bool false, .bool false, .int .i64 0, .slice none 0 0, .slice none 0 0, .int .i64 0] 26)) = w0 at *
  go_wp2_with fail
  refine (l20Open_any code _ _ (h.ext he0)).mono ?_
  rintro e w1 ⟨rfl, hR1, hy⟩
  have hs1 := hy.size
  try simp at hs1
  have he1 : Ext w w1 := Ext.trans (Ext.hold he0) hy
  have hBres_1 : Bx w1 (w.heap.size) [.slice none 0 0, .int .i64 0, .slice none 0 0, .int .i64 0, .bool false, .bool false, .int .i64 0, .slice none 0 0, .slice none 0 0, .int .i64 0] := hy.bx (Bx.hold hBres_0) (by first | omega | (simp; done) | (simp; omega))
  have hFres_1 : ∀ oo, w1.frozen? ⟨w.heap.size, oo, none⟩ = false := fun oo => (hy.frozen (by first | omega | (simp; done) | (simp; omega))).trans ((fz_hold hFres_0) oo)
  clear hBres_0 hFres_0
  have hrb1 := hR1.lt
  have hrw : w.heap.size < w0.heap.size := by omega
  have hT1 : Turn [w0.heap.size] w1 w1 := Turn.refl _ _
  generalize hrbn : w0.heap.size = rb at *
  clear hrbn
  have hrlt : rb < w1.heap.size := by omega
  go_wp2_with fail
  refine (l20MachOr_any rb (rb + 1) 0 _ hR1 (by omega) 20 (by omega) (by omega)).mono ?_
  intro e w2 hmp
  unfold OrPost at hmp
  obtain ⟨⟨m, A1, A2, A3, A4, c1, c2, c3, c4, rfl, hlens, s1, s2, s3, s4⟩, hR2, hy⟩ := hmp
  have hns : ∀ x, New w1 w2 x → x < w2.heap.size ∧ x ∉ [rb] := fun x hx => ⟨hx.2, by have := hx.1; simp; omega⟩
  have hs2 := hy.size
  try simp at hs2
  have he2 : Ext w w2 := hy.ext (Ext.hold he1) (by simp; omega)
  have hBres_2 : Bx w2 (w.heap.size) [.slice none 0 0, .int .i64 0, .slice none 0 0, .int .i64 0, .bool false, .bool false, .int .i64 0, .slice none 0 0, .slice none 0 0, .int .i64 0] := hy.bx (Bx.hold hBres_1) (by first | omega | (simp; done) | (simp; omega)) (by simp; omega)
  have hFres_2 : ∀ oo, w2.frozen? ⟨w.heap.size, oo, none⟩ = false := fun oo => (hy.frozen (by first | omega | (simp; done) | (simp; omega)) (by simp; omega)).trans ((fz_hold hFres_1) oo)
  clear hBres_1 hFres_1
  clear hy he1
  go_upto_region 3 with fail
  have s1 := s1.turn (Turn.of_ext (show Ext w2 (w2.alloc (Obj.cells #[(.slice A1 m.regs.length c1), .int .i64 m.pc, (.slice A2 m.mem.length c2), .int .i64 m.save, .bool m.lets, .bool m.waits, .int .i64 m.halt, (.slice A3 m.ins.length c3), (.slice A4 m.outs.length c4), .int .i64 m.count] 26)) from Ext.auto) [rb]) hns
  have s2 := s2.turn (Turn.of_ext (show Ext w2 (w2.alloc (Obj.cells #[(.slice A1 m.regs.length c1), .int .i64 m.pc, (.slice A2 m.mem.length c2), .int .i64 m.save, .bool m.lets, .bool m.waits, .int .i64 m.halt, (.slice A3 m.ins.length c3), (.slice A4 m.outs.length c4), .int .i64 m.count] 26)) from Ext.auto) [rb]) hns
  have s3 := s3.turn (Turn.of_ext (show Ext w2 (w2.alloc (Obj.cells #[(.slice A1 m.regs.length c1), .int .i64 m.pc, (.slice A2 m.mem.length c2), .int .i64 m.save, .bool m.lets, .bool m.waits, .int .i64 m.halt, (.slice A3 m.ins.length c3), (.slice A4 m.outs.length c4), .int .i64 m.count] 26)) from Ext.auto) [rb]) hns
  have s4 := s4.turn (Turn.of_ext (show Ext w2 (w2.alloc (Obj.cells #[(.slice A1 m.regs.length c1), .int .i64 m.pc, (.slice A2 m.mem.length c2), .int .i64 m.save, .bool m.lets, .bool m.waits, .int .i64 m.halt, (.slice A3 m.ins.length c3), (.slice A4 m.outs.length c4), .int .i64 m.count] 26)) from Ext.auto) [rb]) hns
  have hR3 : Rdr rb _ _ (w2.alloc (Obj.cells #[(.slice A1 m.regs.length c1), .int .i64 m.pc, (.slice A2 m.mem.length c2), .int .i64 m.save, .bool m.lets, .bool m.waits, .int .i64 m.halt, (.slice A3 m.ins.length c3), (.slice A4 m.outs.length c4), .int .i64 m.count] 26)) := Rdr.hold hR2
  have he3 : Ext w (w2.alloc (Obj.cells #[(.slice A1 m.regs.length c1), .int .i64 m.pc, (.slice A2 m.mem.length c2), .int .i64 m.save, .bool m.lets, .bool m.waits, .int .i64 m.halt, (.slice A3 m.ins.length c3), (.slice A4 m.outs.length c4), .int .i64 m.count] 26)) := Ext.hold he2
  have hs3 : w2.heap.size + 1 ≤ ((w2.alloc (Obj.cells #[(.slice A1 m.regs.length c1), .int .i64 m.pc, (.slice A2 m.mem.length c2), .int .i64 m.save, .bool m.lets, .bool m.waits, .int .i64 m.halt, (.slice A3 m.ins.length c3), (.slice A4 m.outs.length c4), .int .i64 m.count] 26))).heap.size := by simp
  have hBres_3 : Bx (w2.alloc (Obj.cells #[(.slice A1 m.regs.length c1), .int .i64 m.pc, (.slice A2 m.mem.length c2), .int .i64 m.save, .bool m.lets, .bool m.waits, .int .i64 m.halt, (.slice A3 m.ins.length c3), (.slice A4 m.outs.length c4), .int .i64 m.count] 26)) (w.heap.size) [.slice none 0 0, .int .i64 0, .slice none 0 0, .int .i64 0, .bool false, .bool false, .int .i64 0, .slice none 0 0, .slice none 0 0, .int .i64 0] := Bx.hold hBres_2
  have hFres_3 : ∀ oo, (w2.alloc (Obj.cells #[(.slice A1 m.regs.length c1), .int .i64 m.pc, (.slice A2 m.mem.length c2), .int .i64 m.save, .bool m.lets, .bool m.waits, .int .i64 m.halt, (.slice A3 m.ins.length c3), (.slice A4 m.outs.length c4), .int .i64 m.count] 26)).frozen? ⟨w.heap.size, oo, none⟩ = false := fz_hold hFres_2
  have hBx_3 : Bx (w2.alloc (Obj.cells #[(.slice A1 m.regs.length c1), .int .i64 m.pc, (.slice A2 m.mem.length c2), .int .i64 m.save, .bool m.lets, .bool m.waits, .int .i64 m.halt, (.slice A3 m.ins.length c3), (.slice A4 m.outs.length c4), .int .i64 m.count] 26)) (w2.heap.size) [(.slice A1 m.regs.length c1), .int .i64 m.pc, (.slice A2 m.mem.length c2), .int .i64 m.save, .bool m.lets, .bool m.waits, .int .i64 m.halt, (.slice A3 m.ins.length c3), (.slice A4 m.outs.length c4), .int .i64 m.count] := Bx.new w2 #[(.slice A1 m.regs.length c1), .int .i64 m.pc, (.slice A2 m.mem.length c2), .int .i64 m.save, .bool m.lets, .bool m.waits, .int .i64 m.halt, (.slice A3 m.ins.length c3), (.slice A4 m.outs.length c4), .int .i64 m.count] 26
  have hFx_3 : ∀ oo, (w2.alloc (Obj.cells #[(.slice A1 m.regs.length c1), .int .i64 m.pc, (.slice A2 m.mem.length c2), .int .i64 m.save, .bool m.lets, .bool m.waits, .int .i64 m.halt, (.slice A3 m.ins.length c3), (.slice A4 m.outs.length c4), .int .i64 m.count] 26)).frozen? ⟨w2.heap.size, oo, none⟩ = false := fz_new w2 #[(.slice A1 m.regs.length c1), .int .i64 m.pc, (.slice A2 m.mem.length c2), .int .i64 m.save, .bool m.lets, .bool m.waits, .int .i64 m.halt, (.slice A3 m.ins.length c3), (.slice A4 m.outs.length c4), .int .i64 m.count] 26 rfl
  generalize (w2.alloc (Obj.cells #[(.slice A1 m.regs.length c1), .int .i64 m.pc, (.slice A2 m.mem.length c2), .int .i64 m.save, .bool m.lets, .bool m.waits, .int .i64 m.halt, (.slice A3 m.ins.length c3), (.slice A4 m.outs.length c4), .int .i64 m.count] 26)) = w3 at *
  clear hBres_2 hFres_2
  have hns : ∀ x, New w1 w2 x → x < w3.heap.size ∧ x ∉ [rb] := fun x hx => ⟨by have := hx.2; omega, (hns x hx).2⟩
  go_wp2_with fail
  refine (l20Irqs_any rb _ _ _ (Rdr.hold hR3) (by omega)).mono ?_
  rintro e w4 ⟨⟨v5, rfl, l, hG4, hl5, hlw⟩, hR4, hy⟩
  obtain ⟨A5, c5, rfl, -, -⟩ := hG4.form
  have s1 := s1.turn hy hns
  have s2 := s2.turn hy hns
  have s3 := s3.turn hy hns
  have s4 := s4.turn hy hns
  have hns : ∀ x, New w1 w2 x → x < w4.heap.size ∧ x ∉ [rb] := fun x hx => ⟨by have := hy.size; have := (hns x hx).1; omega, (hns x hx).2⟩
  have hs4 := hy.size
  try simp at hs4
  have he4 : Ext w w4 := hy.ext (Ext.hold he3) (by simp; omega)
  have hBres_4 : Bx w4 (w.heap.size) [.slice none 0 0, .int .i64 0, .slice none 0 0, .int .i64 0, .bool false, .bool false, .int .i64 0, .slice none 0 0, .slice none 0 0, .int .i64 0] := hy.bx (Bx.hold hBres_3) (by first | omega | (simp; done) | (simp; omega)) (by simp; omega)
  have hFres_4 : ∀ oo, w4.frozen? ⟨w.heap.size, oo, none⟩ = false := fun oo => (hy.frozen (by first | omega | (simp; done) | (simp; omega)) (by simp; omega)).trans ((fz_hold hFres_3) oo)
  have hBx_4 : Bx w4 (w2.heap.size) [(.slice A1 m.regs.length c1), .int .i64 m.pc, (.slice A2 m.mem.length c2), .int .i64 m.save, .bool m.lets, .bool m.waits, .int .i64 m.halt, (.slice A3 m.ins.length c3), (.slice A4 m.outs.length c4), .int .i64 m.count] := hy.bx (Bx.hold hBx_3) (by first | omega | (simp; done) | (simp; omega)) (by simp; omega)
  have hFx_4 : ∀ oo, w4.frozen? ⟨w2.heap.size, oo, none⟩ = false := fun oo => (hy.frozen (by first | omega | (simp; done) | (simp; omega)) (by simp; omega)).trans ((fz_hold hFx_3) oo)
  clear hBres_3 hFres_3 hBx_3 hFx_3
  clear hy
  go_wp2_with fail
  refine (pick_any rb _ _ _ (Rdr.hold hR4) (by omega) 60 (by omega) (by omega)).mono ?_
  rintro e w5 ⟨⟨n, rfl, ln, qn⟩, hR5, hy⟩
  have un : n < 60 := by omega
  clear qn
  have hG5 := hG4.turn hy (fun q hq => by have := (hG4.lt q hq).1; simp; omega)
  have s1 := s1.turn hy hns
  have s2 := s2.turn hy hns
  have s3 := s3.turn hy hns
  have s4 := s4.turn hy hns
  have hns : ∀ x, New w1 w2 x → x < w5.heap.size ∧ x ∉ [rb] := fun x hx => ⟨by have := hy.size; have := (hns x hx).1; omega, (hns x hx).2⟩
  have hs5 := hy.size
  try simp at hs5
  have he5 : Ext w w5 := hy.ext (Ext.hold he4) (by simp; omega)
  have hBres_5 : Bx w5 (w.heap.size) [.slice none 0 0, .int .i64 0, .slice none 0 0, .int .i64 0, .bool false, .bool false, .int .i64 0, .slice none 0 0, .slice none 0 0, .int .i64 0] := hy.bx (Bx.hold hBres_4) (by first | omega | (simp; done) | (simp; omega)) (by simp; omega)
  have hFres_5 : ∀ oo, w5.frozen? ⟨w.heap.size, oo, none⟩ = false := fun oo => (hy.frozen (by first | omega | (simp; done) | (simp; omega)) (by simp; omega)).trans ((fz_hold hFres_4) oo)
  have hBx_5 : Bx w5 (w2.heap.size) [(.slice A1 m.regs.length c1), .int .i64 m.pc, (.slice A2 m.mem.length c2), .int .i64 m.save, .bool m.lets, .bool m.waits, .int .i64 m.halt, (.slice A3 m.ins.length c3), (.slice A4 m.outs.length c4), .int .i64 m.count] := hy.bx (Bx.hold hBx_4) (by first | omega | (simp; done) | (simp; omega)) (by simp; omega)
  have hFx_5 : ∀ oo, w5.frozen? ⟨w2.heap.size, oo, none⟩ = false := fun oo => (hy.frozen (by first | omega | (simp; done) | (simp; omega)) (by simp; omega)).trans ((fz_hold hFx_4) oo)
  clear hBres_4 hFres_4 hBx_4 hFx_4
  clear hy hG4
  go_wp2_with fail
  refine (odd_any rb _ _ _ (Rdr.hold hR5) (by omega) 20 (by omega) (by omega)).mono ?_
  rintro e w6 ⟨⟨b, rfl⟩, hR6, hy⟩
  have hG6 := hG5.turn hy (fun q hq => by have := (hG5.lt q hq).1; simp; omega)
  have s1 := s1.turn hy hns
  have s2 := s2.turn hy hns
  have s3 := s3.turn hy hns
  have s4 := s4.turn hy hns
  have hns : ∀ x, New w1 w2 x → x < w6.heap.size ∧ x ∉ [rb] := fun x hx => ⟨by have := hy.size; have := (hns x hx).1; omega, (hns x hx).2⟩
  have hs6 := hy.size
  try simp at hs6
  have he6 : Ext w w6 := hy.ext (Ext.hold he5) (by simp; omega)
  have hBres_6 : Bx w6 (w.heap.size) [.slice none 0 0, .int .i64 0, .slice none 0 0, .int .i64 0, .bool false, .bool false, .int .i64 0, .slice none 0 0, .slice none 0 0, .int .i64 0] := hy.bx (Bx.hold hBres_5) (by first | omega | (simp; done) | (simp; omega)) (by simp; omega)
  have hFres_6 : ∀ oo, w6.frozen? ⟨w.heap.size, oo, none⟩ = false := fun oo => (hy.frozen (by first | omega | (simp; done) | (simp; omega)) (by simp; omega)).trans ((fz_hold hFres_5) oo)
  have hBx_6 : Bx w6 (w2.heap.size) [(.slice A1 m.regs.length c1), .int .i64 m.pc, (.slice A2 m.mem.length c2), .int .i64 m.save, .bool m.lets, .bool m.waits, .int .i64 m.halt, (.slice A3 m.ins.length c3), (.slice A4 m.outs.length c4), .int .i64 m.count] := hy.bx (Bx.hold hBx_5) (by first | omega | (simp; done) | (simp; omega)) (by simp; omega)
  have hFx_6 : ∀ oo, w6.frozen? ⟨w2.heap.size, oo, none⟩ = false := fun oo => (hy.frozen (by first | omega | (simp; done) | (simp; omega)) (by simp; omega)).trans ((fz_hold hFx_5) oo)
  clear hBres_5 hFres_5 hBx_5 hFx_5
  clear hy hG5
  cases b
  · 
    have hns2 : ∀ x, New w1 w2 x → x < w6.heap.size ∧ x ∉ [w.heap.size] := fun x hx => ⟨(hns x hx).1, by have := hx.1; simp; omega⟩
    have yx : w2.heap.size < w6.heap.size := by omega
    have xx0 := hBx_6 0 _ rfl
    have xx1 := hBx_6 1 _ rfl
    have xx2 := hBx_6 2 _ rfl
    have xx3 := hBx_6 3 _ rfl
    have xx4 := hBx_6 4 _ rfl
    have xx5 := hBx_6 5 _ rfl
    have xx6 := hBx_6 6 _ rfl
    have xx7 := hBx_6 7 _ rfl
    have xx8 := hBx_6 8 _ rfl
    have xx9 := hBx_6 9 _ rfl
    have fx := hFx_6
    have yres : w.heap.size < w6.heap.size := by omega
    have xres0 := hBres_6 0 _ rfl
    have xres1 := hBres_6 1 _ rfl
    have xres2 := hBres_6 2 _ rfl
    have xres3 := hBres_6 3 _ rfl
    have xres4 := hBres_6 4 _ rfl
    have xres5 := hBres_6 5 _ rfl
    have xres6 := hBres_6 6 _ rfl
    have xres7 := hBres_6 7 _ rfl
    have xres8 := hBres_6 8 _ rfl
    have xres9 := hBres_6 9 _ rfl
    have fres := hFres_6
    have hTw : Turn [w.heap.size] w6 ((((((((((w6.setCell ⟨w.heap.size, 0, none⟩ ((.slice A1 m.regs.length c1))).setCell ⟨w.heap.size, 1, none⟩ (.int .i64 m.pc)).setCell ⟨w.heap.size, 2, none⟩ ((.slice A2 m.mem.length c2))).setCell ⟨w.heap.size, 3, none⟩ (.int .i64 m.save)).setCell ⟨w.heap.size, 4, none⟩ (.bool m.lets)).setCell ⟨w.heap.size, 5, none⟩ (.bool m.waits)).setCell ⟨w.heap.size, 6, none⟩ (.int .i64 m.halt)).setCell ⟨w.heap.size, 7, none⟩ ((.slice A3 m.ins.length c3))).setCell ⟨w.heap.size, 8, none⟩ ((.slice A4 m.outs.length c4))).setCell ⟨w.heap.size, 9, none⟩ (.int .i64 m.count)) := Turn.hold (Turn.refl _ _)
    have hGn := hG6.turn hTw (fun q hq => by have := (hG6.lt q hq).1; simp; omega)
    go_wp2
    refine bodyPost_ret (v := .tuple #[.agg #[(.slice A1 m.regs.length c1), .int .i64 m.pc, (.slice A2 m.mem.length c2), .int .i64 m.save, .bool m.lets, .bool m.waits, .int .i64 m.halt, (.slice A3 m.ins.length c3), (.slice A4 m.outs.length c4), .int .i64 m.count], .slice A5 l.length c5, .int .i64 n]) (by simp [results, Tryd.results38, go_sem, xres0, xres1, xres2, xres3, xres4, xres5, xres6, xres7, xres8, xres9]) rfl ?_
    unfold DRun
    exact ⟨m, A1, A2, A3, A4, A5, c1, c2, c3, c4, c5, l, n, rfl, hlens, ⟨hl5, hlw, by omega, by omega⟩, (s1.turn hTw hns2).keep (fun _ _ _ => rfl) (fun b hb => by have := (hns b hb).1; show b < _; simp; omega), (s2.turn hTw hns2).keep (fun _ _ _ => rfl) (fun b hb => by have := (hns b hb).1; show b < _; simp; omega), (s3.turn hTw hns2).keep (fun _ _ _ => rfl) (fun b hb => by have := (hns b hb).1; show b < _; simp; omega), (s4.turn hTw hns2).keep (fun _ _ _ => rfl) (fun b hb => by have := (hns b hb).1; show b < _; simp; omega), hGn.sl, Ext.hold he6⟩
  · 
    go_wp2_with fail
    refine (pick_any rb _ _ _ (Rdr.hold hR6) (by omega) 3 (by omega) (by omega)).mono ?_
    rintro e w7 ⟨⟨i, rfl, li, qi⟩, hR7, hy⟩
    have ui : i < 3 := by omega
    clear qi
    obtain ⟨V, rfl⟩ := Int.eq_ofNat_of_zero_le li
    have hV : V < 3 := by omega
    have hBt : Bx w7 w6.heap.size (List.map (Value.int .i64) [-1, 400, 401]) := hy.bx (Bx.new w6 #[.int .i64 (-1), .int .i64 400, .int .i64 401] 3) (by simp) (by simp; omega)
    have eV := hBt.at_ (v := V) hV
    have yt : w6.heap.size < w7.heap.size := by have := hy.size; simp at this; omega
    have hb : ∀ zz ∈ ([-1, 400, 401] : List Int), -1 ≤ zz ∧ zz ≤ 401 := by intro zz hzz; simp at hzz; omega
    have hb2 := hb _ (List.getElem_mem (l := [-1, 400, 401]) (n := V) hV)
    clear hb hBt
    generalize ([-1, 400, 401] : List Int)[V] = k at *
    obtain ⟨lk, uk⟩ := hb2
    have z0 : (0 : Int) ≤ (V : Int) := by omega
    have z1 : (V : Int) < 3 := by omega
    have hx7 : Ext w6 (w6.alloc (.cells #[.int .i64 (-1), .int .i64 400, .int .i64 401] 3)) := Ext.auto
    have hG7 := (hG6.ext hx7).turn hy (fun q hq => by have := (hG6.lt q hq).1; simp; omega)
    have s1 := (s1.turn (Turn.of_ext hx7 [rb]) hns).turn hy (fun x hx => ⟨by have := (hns x hx).1; simp; omega, (hns x hx).2⟩)
    have s2 := (s2.turn (Turn.of_ext hx7 [rb]) hns).turn hy (fun x hx => ⟨by have := (hns x hx).1; simp; omega, (hns x hx).2⟩)
    have s3 := (s3.turn (Turn.of_ext hx7 [rb]) hns).turn hy (fun x hx => ⟨by have := (hns x hx).1; simp; omega, (hns x hx).2⟩)
    have s4 := (s4.turn (Turn.of_ext hx7 [rb]) hns).turn hy (fun x hx => ⟨by have := (hns x hx).1; simp; omega, (hns x hx).2⟩)
    have hns : ∀ x, New w1 w2 x → x < w7.heap.size ∧ x ∉ [rb] := fun x hx => ⟨by have hz := hy.size; have := (hns x hx).1; (try simp at hz); omega, (hns x hx).2⟩
    have hs7 := hy.size
    try simp at hs7
    have he7 : Ext w w7 := hy.ext (Ext.hold he6) (by simp; omega)
    have hBres_7 : Bx w7 (w.heap.size) [.slice none 0 0, .int .i64 0, .slice none 0 0, .int .i64 0, .bool false, .bool false, .int .i64 0, .slice none 0 0, .slice none 0 0, .int .i64 0] := hy.bx (Bx.hold hBres_6) (by first | omega | (simp; done) | (simp; omega)) (by simp; omega)
    have hFres_7 : ∀ oo, w7.frozen? ⟨w.heap.size, oo, none⟩ = false := fun oo => (hy.frozen (by first | omega | (simp; done) | (simp; omega)) (by simp; omega)).trans ((fz_hold hFres_6) oo)
    have hBx_7 : Bx w7 (w2.heap.size) [(.slice A1 m.regs.length c1), .int .i64 m.pc, (.slice A2 m.mem.length c2), .int .i64 m.save, .bool m.lets, .bool m.waits, .int .i64 m.halt, (.slice A3 m.ins.length c3), (.slice A4 m.outs.length c4), .int .i64 m.count] := hy.bx (Bx.hold hBx_6) (by first | omega | (simp; done) | (simp; omega)) (by simp; omega)
    have hFx_7 : ∀ oo, w7.frozen? ⟨w2.heap.size, oo, none⟩ = false := fun oo => (hy.frozen (by first | omega | (simp; done) | (simp; omega)) (by simp; omega)).trans ((fz_hold hFx_6) oo)
    clear hBres_6 hFres_6 hBx_6 hFx_6
    clear hy hG6 hx7
    have hns2 : ∀ x, New w1 w2 x → x < w7.heap.size ∧ x ∉ [w.heap.size] := fun x hx => ⟨(hns x hx).1, by have := hx.1; simp; omega⟩
    have yx : w2.heap.size < w7.heap.size := by omega
    have xx0 := hBx_7 0 _ rfl
    have xx1 := hBx_7 1 _ rfl
    have xx2 := hBx_7 2 _ rfl
    have xx3 := hBx_7 3 _ rfl
    have xx4 := hBx_7 4 _ rfl
    have xx5 := hBx_7 5 _ rfl
    have xx6 := hBx_7 6 _ rfl
    have xx7 := hBx_7 7 _ rfl
    have xx8 := hBx_7 8 _ rfl
    have xx9 := hBx_7 9 _ rfl
    have fx := hFx_7
    have yres : w.heap.size < w7.heap.size := by omega
    have xres0 := hBres_7 0 _ rfl
    have xres1 := hBres_7 1 _ rfl
    have xres2 := hBres_7 2 _ rfl
    have xres3 := hBres_7 3 _ rfl
    have xres4 := hBres_7 4 _ rfl
    have xres5 := hBres_7 5 _ rfl
    have xres6 := hBres_7 6 _ rfl
    have xres7 := hBres_7 7 _ rfl
    have xres8 := hBres_7 8 _ rfl
    have xres9 := hBres_7 9 _ rfl
    have fres := hFres_7
    have hTw : Turn [w.heap.size] w7 ((((((((((w7.setCell ⟨w.heap.size, 0, none⟩ ((.slice A1 m.regs.length c1))).setCell ⟨w.heap.size, 1, none⟩ (.int .i64 m.pc)).setCell ⟨w.heap.size, 2, none⟩ ((.slice A2 m.mem.length c2))).setCell ⟨w.heap.size, 3, none⟩ (.int .i64 m.save)).setCell ⟨w.heap.size, 4, none⟩ (.bool m.lets)).setCell ⟨w.heap.size, 5, none⟩ (.bool m.waits)).setCell ⟨w.heap.size, 6, none⟩ (.int .i64 m.halt)).setCell ⟨w.heap.size, 7, none⟩ ((.slice A3 m.ins.length c3))).setCell ⟨w.heap.size, 8, none⟩ ((.slice A4 m.outs.length c4))).setCell ⟨w.heap.size, 9, none⟩ (.int .i64 m.count)) := Turn.hold (Turn.refl _ _)
    have hGn := hG7.turn hTw (fun q hq => by have := (hG7.lt q hq).1; simp; omega)
    go_wp2
    refine bodyPost_ret (v := .tuple #[.agg #[(.slice A1 m.regs.length c1), .int .i64 m.pc, (.slice A2 m.mem.length c2), .int .i64 m.save, .bool m.lets, .bool m.waits, .int .i64 m.halt, (.slice A3 m.ins.length c3), (.slice A4 m.outs.length c4), .int .i64 m.count], .slice A5 l.length c5, .int .i64 k]) (by simp [results, Tryd.results38, go_sem, xres0, xres1, xres2, xres3, xres4, xres5, xres6, xres7, xres8, xres9]) rfl ?_
    unfold DRun
    exact ⟨m, A1, A2, A3, A4, A5, c1, c2, c3, c4, c5, l, k, rfl, hlens, ⟨hl5, hlw, by omega, by omega⟩, (s1.turn hTw hns2).keep (fun _ _ _ => rfl) (fun b hb => by have := (hns b hb).1; show b < _; simp; omega), (s2.turn hTw hns2).keep (fun _ _ _ => rfl) (fun b hb => by have := (hns b hb).1; show b < _; simp; omega), (s3.turn hTw hns2).keep (fun _ _ _ => rfl) (fun b hb => by have := (hns b hb).1; show b < _; simp; omega), (s4.turn hTw hns2).keep (fun _ _ _ => rfl) (fun b hb => by have := (hns b hb).1; show b < _; simp; omega), hGn.sl, Ext.hold he7⟩

end Go.Proofs.YtabldlhigjhkeaaDoor
