/-
  DrawPr
-/
import Derived.Test.YteaacelfnkiboaaYDrawBO
import Derived.Test.YteaacelfnkiboaaYDrawCl
import Derived.Deep.DeepCutAuto
namespace Go.Proofs.Yteaacelfnkiboaa
open Go.RowKit

set_option linter.unusedVariables false
set_option linter.unusedSimpArgs false
set_option maxRecDepth 100000

set_option maxHeartbeats 16000000 in
theorem l21Pair_any (rb base P : Nat) (w : World) (h : Rdr rb base P w) (hP : P ≤ 1099511400000) (n : Int) (hn0 : 0 ≤ n) (hn : n ≤ 1000) :
    Calls Try.prog 34 #[.pointer (some ⟨rb, 0, none⟩), .int .i64 n] w fun e w' => (∃ (b c : IrBlock) (A1 A2 : Option Addr) (c1 c2 : Nat), e = .returned (.tuple #[.agg #[.int .i64 b.pc, .int .i64 b.len, .slice A1 b.ops.length c1, .int .i64 b.fin, .int .i64 b.x, .int .i64 b.y, .int .i64 b.k], .agg #[.int .i64 c.pc, .int .i64 c.len, .slice A2 c.ops.length c2, .int .i64 c.fin, .int .i64 c.x, .int .i64 c.y, .int .i64 c.k]]) ∧ GlO w.heap.size w' (.slice A1 b.ops.length c1) b.ops ∧ GlO w.heap.size w' (.slice A2 c.ops.length c2) c.ops ∧ b.Ok ∧ c.Ok ∧ b.ops.length ≤ 49 ∧ c.ops.length ≤ 49) ∧ Rdr rb base (P + 600) w' ∧ Turn [rb] w w' := by
  have hlt := h.lt
  have hlt1 := hlt.1
  have hlt2 := hlt.2
  clear hlt
  go_enter Try.func34, Try.ntmps34
  go_upto_region 1 with fail
  have he0 : Ext w ((w.alloc (Obj.cells #[.int .i64 0, .int .i64 0, .slice none 0 0, .int .i64 0, .int .i64 0, .int .i64 0, .int .i64 0] 25)).alloc (Obj.cells #[.int .i64 0, .int .i64 0, .slice none 0 0, .int .i64 0, .int .i64 0, .int .i64 0, .int .i64 0] 25)) := (Ext.auto)
  have hs0 : w.heap.size + 2 ≤ (((w.alloc (Obj.cells #[.int .i64 0, .int .i64 0, .slice none 0 0, .int .i64 0, .int .i64 0, .int .i64 0, .int .i64 0] 25)).alloc (Obj.cells #[.int .i64 0, .int .i64 0, .slice none 0 0, .int .i64 0, .int .i64 0, .int .i64 0, .int .i64 0] 25))).heap.size := by simp
  have hq0 := hide (show (((w.alloc (Obj.cells #[.int .i64 0, .int .i64 0, .slice none 0 0, .int .i64 0, .int .i64 0, .int .i64 0, .int .i64 0] 25)).alloc (Obj.cells #[.int .i64 0, .int .i64 0, .slice none 0 0, .int .i64 0, .int .i64 0, .int .i64 0, .int .i64 0] 25))).heap.size = w.heap.size + 2 by simp)
  have hBres1_0 : Bx ((w.alloc (Obj.cells #[.int .i64 0, .int .i64 0, .slice none 0 0, .int .i64 0, .int .i64 0, .int .i64 0, .int .i64 0] 25)).alloc (Obj.cells #[.int .i64 0, .int .i64 0, .slice none 0 0, .int .i64 0, .int .i64 0, .int .i64 0, .int .i64 0] 25)) (w.heap.size) [.int .i64 0, .int .i64 0, .slice none 0 0, .int .i64 0, .int .i64 0, .int .i64 0, .int .i64 0] := (by have := (Bx.alloc (Bx.new w #[.int .i64 0, .int .i64 0, .slice none 0 0, .int .i64 0, .int .i64 0, .int .i64 0, .int .i64 0] 25) (by simp) #[.int .i64 0, .int .i64 0, .slice none 0 0, .int .i64 0, .int .i64 0, .int .i64 0, .int .i64 0] 25); simpa using this)
  have hFres1_0 : ∀ oo, (((w.alloc (Obj.cells #[.int .i64 0, .int .i64 0, .slice none 0 0, .int .i64 0, .int .i64 0, .int .i64 0, .int .i64 0] 25)).alloc (Obj.cells #[.int .i64 0, .int .i64 0, .slice none 0 0, .int .i64 0, .int .i64 0, .int .i64 0, .int .i64 0] 25))).frozen? ⟨w.heap.size, oo, none⟩ = false := fun oo => by simp
  have hBres2_0 : Bx ((w.alloc (Obj.cells #[.int .i64 0, .int .i64 0, .slice none 0 0, .int .i64 0, .int .i64 0, .int .i64 0, .int .i64 0] 25)).alloc (Obj.cells #[.int .i64 0, .int .i64 0, .slice none 0 0, .int .i64 0, .int .i64 0, .int .i64 0, .int .i64 0] 25)) (w.heap.size + 1) [.int .i64 0, .int .i64 0, .slice none 0 0, .int .i64 0, .int .i64 0, .int .i64 0, .int .i64 0] := (by have := (Bx.new (w.alloc (Obj.cells #[.int .i64 0, .int .i64 0, .slice none 0 0, .int .i64 0, .int .i64 0, .int .i64 0, .int .i64 0] 25)) #[.int .i64 0, .int .i64 0, .slice none 0 0, .int .i64 0, .int .i64 0, .int .i64 0, .int .i64 0] 25); simpa using this)
  have hFres2_0 : ∀ oo, (((w.alloc (Obj.cells #[.int .i64 0, .int .i64 0, .slice none 0 0, .int .i64 0, .int .i64 0, .int .i64 0, .int .i64 0] 25)).alloc (Obj.cells #[.int .i64 0, .int .i64 0, .slice none 0 0, .int .i64 0, .int .i64 0, .int .i64 0, .int .i64 0] 25))).frozen? ⟨w.heap.size + 1, oo, none⟩ = false := fun oo => by simp
  generalize ((w.alloc (Obj.cells #[.int .i64 0, .int .i64 0, .slice none 0 0, .int .i64 0, .int .i64 0, .int .i64 0, .int .i64 0] 25)).alloc (Obj.cells #[.int .i64 0, .int .i64 0, .slice none 0 0, .int .i64 0, .int .i64 0, .int .i64 0, .int .i64 0] 25)) = w0 at *
  have hR0 : Rdr rb base P w0 := h.ext he0
  have hT0 : Turn [rb] w w0 := Turn.of_ext he0 _
  go_wp2_with fail
  refine (l21BlockOr_any rb base _ _ (Rdr.hold hR0) (by omega) n hn0 hn).mono ?_
  rintro e w1 ⟨⟨b, A1, c1, rfl, hb, hok, hl49⟩, hR1, hy⟩
  have hs1 := hy.size
  try simp at hs1
  have hT1 : Turn [rb] w w1 := (Turn.hold hT0).trans hy
  have hBres1_1 : Bx w1 (w.heap.size) [.int .i64 0, .int .i64 0, .slice none 0 0, .int .i64 0, .int .i64 0, .int .i64 0, .int .i64 0] := hy.bx (Bx.hold hBres1_0) (by first | omega | (simp; done) | (simp; omega)) (by simp; omega)
  have hFres1_1 : ∀ oo, w1.frozen? ⟨w.heap.size, oo, none⟩ = false := fun oo => (hy.frozen (by first | omega | (simp; done) | (simp; omega)) (by simp; omega)).trans ((fz_hold hFres1_0) oo)
  have hBres2_1 : Bx w1 (w.heap.size + 1) [.int .i64 0, .int .i64 0, .slice none 0 0, .int .i64 0, .int .i64 0, .int .i64 0, .int .i64 0] := hy.bx (Bx.hold hBres2_0) (by first | omega | (simp; done) | (simp; omega)) (by simp; omega)
  have hFres2_1 : ∀ oo, w1.frozen? ⟨w.heap.size + 1, oo, none⟩ = false := fun oo => (hy.frozen (by first | omega | (simp; done) | (simp; omega)) (by simp; omega)).trans ((fz_hold hFres2_0) oo)
  clear hBres1_0 hFres1_0 hBres2_0 hFres2_0
  clear hy
  go_upto_region 2 with fail
  have hR2 := Rdr.hold (w' := (w1.alloc (.cells #[.int .i64 b.pc, .int .i64 b.len, .slice A1 b.ops.length c1, .int .i64 b.fin, .int .i64 b.x, .int .i64 b.y, .int .i64 b.k] 25))) hR1
  have hT2 : Turn [rb] w (w1.alloc (.cells #[.int .i64 b.pc, .int .i64 b.len, .slice A1 b.ops.length c1, .int .i64 b.fin, .int .i64 b.x, .int .i64 b.y, .int .i64 b.k] 25)) := Turn.hold hT1
  have hs2 : w1.heap.size + 1 ≤ ((w1.alloc (.cells #[.int .i64 b.pc, .int .i64 b.len, .slice A1 b.ops.length c1, .int .i64 b.fin, .int .i64 b.x, .int .i64 b.y, .int .i64 b.k] 25))).heap.size := by simp
  have hx2 : Ext w1 (w1.alloc (.cells #[.int .i64 b.pc, .int .i64 b.len, .slice A1 b.ops.length c1, .int .i64 b.fin, .int .i64 b.x, .int .i64 b.y, .int .i64 b.k] 25)) := Ext.auto
  have hBx_2 : Bx (w1.alloc (.cells #[.int .i64 b.pc, .int .i64 b.len, .slice A1 b.ops.length c1, .int .i64 b.fin, .int .i64 b.x, .int .i64 b.y, .int .i64 b.k] 25)) w1.heap.size [.int .i64 b.pc, .int .i64 b.len, .slice A1 b.ops.length c1, .int .i64 b.fin, .int .i64 b.x, .int .i64 b.y, .int .i64 b.k] := Bx.new w1 #[.int .i64 b.pc, .int .i64 b.len, .slice A1 b.ops.length c1, .int .i64 b.fin, .int .i64 b.x, .int .i64 b.y, .int .i64 b.k] 25
  have hFx_2 : ∀ oo, (w1.alloc (.cells #[.int .i64 b.pc, .int .i64 b.len, .slice A1 b.ops.length c1, .int .i64 b.fin, .int .i64 b.x, .int .i64 b.y, .int .i64 b.k] 25)).frozen? ⟨w1.heap.size, oo, none⟩ = false := fz_new w1 #[.int .i64 b.pc, .int .i64 b.len, .slice A1 b.ops.length c1, .int .i64 b.fin, .int .i64 b.x, .int .i64 b.y, .int .i64 b.k] 25 rfl
  have hBres1_2 : Bx (w1.alloc (.cells #[.int .i64 b.pc, .int .i64 b.len, .slice A1 b.ops.length c1, .int .i64 b.fin, .int .i64 b.x, .int .i64 b.y, .int .i64 b.k] 25)) (w.heap.size) [.int .i64 0, .int .i64 0, .slice none 0 0, .int .i64 0, .int .i64 0, .int .i64 0, .int .i64 0] := Bx.hold hBres1_1
  have hFres1_2 : ∀ oo, (w1.alloc (.cells #[.int .i64 b.pc, .int .i64 b.len, .slice A1 b.ops.length c1, .int .i64 b.fin, .int .i64 b.x, .int .i64 b.y, .int .i64 b.k] 25)).frozen? ⟨w.heap.size, oo, none⟩ = false := fz_hold hFres1_1
  have hBres2_2 : Bx (w1.alloc (.cells #[.int .i64 b.pc, .int .i64 b.len, .slice A1 b.ops.length c1, .int .i64 b.fin, .int .i64 b.x, .int .i64 b.y, .int .i64 b.k] 25)) (w.heap.size + 1) [.int .i64 0, .int .i64 0, .slice none 0 0, .int .i64 0, .int .i64 0, .int .i64 0, .int .i64 0] := Bx.hold hBres2_1
  have hFres2_2 : ∀ oo, (w1.alloc (.cells #[.int .i64 b.pc, .int .i64 b.len, .slice A1 b.ops.length c1, .int .i64 b.fin, .int .i64 b.x, .int .i64 b.y, .int .i64 b.k] 25)).frozen? ⟨w.heap.size + 1, oo, none⟩ = false := fz_hold hFres2_1
  clear hBres1_1 hFres1_1 hBres2_1 hFres2_1
  replace hb := GlO.turn hb (Turn.of_ext hx2 []) (by simp)
  generalize (w1.alloc (.cells #[.int .i64 b.pc, .int .i64 b.len, .slice A1 b.ops.length c1, .int .i64 b.fin, .int .i64 b.x, .int .i64 b.y, .int .i64 b.k] 25)) = w2 at *
  have yx : w1.heap.size < w2.heap.size := by omega
  have xx0 := hBx_2 0 _ rfl
  have xx1 := hBx_2 1 _ rfl
  have xx2 := hBx_2 2 _ rfl
  have xx3 := hBx_2 3 _ rfl
  have xx4 := hBx_2 4 _ rfl
  have xx5 := hBx_2 5 _ rfl
  have xx6 := hBx_2 6 _ rfl
  have fx := hFx_2
  go_wp2_with fail
  refine (specIrOk_any b _ _ (GlO.sl (GlO.turn hb (Turn.of_ext Ext.auto []) (by simp))) hok).mono ?_
  rintro e w3 ⟨rfl, hy⟩
  clear xx0 xx1 xx2 xx3 xx4 xx5 xx6 yx
  clear fx
  have hs3 := hy.size
  try simp at hs3
  have hR3 := (Rdr.hold hR2).ext hy
  have hT3 : Turn [rb] w w3 := (Turn.hold hT2).call hy
  have hBres1_3 : Bx w3 (w.heap.size) [.int .i64 0, .int .i64 0, .slice none 0 0, .int .i64 0, .int .i64 0, .int .i64 0, .int .i64 0] := hy.bx (Bx.hold hBres1_2) (by first | omega | (simp; done) | (simp; omega))
  have hFres1_3 : ∀ oo, w3.frozen? ⟨w.heap.size, oo, none⟩ = false := fun oo => (hy.frozen (by first | omega | (simp; done) | (simp; omega))).trans ((fz_hold hFres1_2) oo)
  have hBres2_3 : Bx w3 (w.heap.size + 1) [.int .i64 0, .int .i64 0, .slice none 0 0, .int .i64 0, .int .i64 0, .int .i64 0, .int .i64 0] := hy.bx (Bx.hold hBres2_2) (by first | omega | (simp; done) | (simp; omega))
  have hFres2_3 : ∀ oo, w3.frozen? ⟨w.heap.size + 1, oo, none⟩ = false := fun oo => (hy.frozen (by first | omega | (simp; done) | (simp; omega))).trans ((fz_hold hFres2_2) oo)
  have hBx_3 : Bx w3 (w1.heap.size) [.int .i64 b.pc, .int .i64 b.len, .slice A1 b.ops.length c1, .int .i64 b.fin, .int .i64 b.x, .int .i64 b.y, .int .i64 b.k] := hy.bx (Bx.hold hBx_2) (by first | omega | (simp; done) | (simp; omega))
  have hFx_3 : ∀ oo, w3.frozen? ⟨w1.heap.size, oo, none⟩ = false := fun oo => (hy.frozen (by first | omega | (simp; done) | (simp; omega))).trans ((fz_hold hFx_2) oo)
  clear hBres1_2 hFres1_2 hBres2_2 hFres2_2 hBx_2 hFx_2
  replace hb := GlO.turn hb (Turn.of_ext (Ext.trans Ext.auto hy) []) (by simp)
  clear hy
  cases hbk : irOkB b
  · 
    clear hbk
    have yx : w1.heap.size < w3.heap.size := by omega
    have xx0 := hBx_3 0 _ rfl
    have xx1 := hBx_3 1 _ rfl
    have xx2 := hBx_3 2 _ rfl
    have xx3 := hBx_3 3 _ rfl
    have xx4 := hBx_3 4 _ rfl
    have xx5 := hBx_3 5 _ rfl
    have xx6 := hBx_3 6 _ rfl
    have fx := hFx_3
    have yres1 : w.heap.size < w3.heap.size := by omega
    have xres10 : w3.cell? ⟨w.heap.size, 0, none⟩ = some (.int .i64 0) := hBres1_3 0 _ rfl
    have xres11 : w3.cell? ⟨w.heap.size, 1, none⟩ = some (.int .i64 0) := hBres1_3 1 _ rfl
    have xres12 : w3.cell? ⟨w.heap.size, 2, none⟩ = some (.slice none 0 0) := hBres1_3 2 _ rfl
    have xres13 : w3.cell? ⟨w.heap.size, 3, none⟩ = some (.int .i64 0) := hBres1_3 3 _ rfl
    have xres14 : w3.cell? ⟨w.heap.size, 4, none⟩ = some (.int .i64 0) := hBres1_3 4 _ rfl
    have xres15 : w3.cell? ⟨w.heap.size, 5, none⟩ = some (.int .i64 0) := hBres1_3 5 _ rfl
    have xres16 : w3.cell? ⟨w.heap.size, 6, none⟩ = some (.int .i64 0) := hBres1_3 6 _ rfl
    have fres1 := hFres1_3
    have yres2 : w.heap.size + 1 < w3.heap.size := by omega
    have xres20 : w3.cell? ⟨w.heap.size + 1, 0, none⟩ = some (.int .i64 0) := hBres2_3 0 _ rfl
    have xres21 : w3.cell? ⟨w.heap.size + 1, 1, none⟩ = some (.int .i64 0) := hBres2_3 1 _ rfl
    have xres22 : w3.cell? ⟨w.heap.size + 1, 2, none⟩ = some (.slice none 0 0) := hBres2_3 2 _ rfl
    have xres23 : w3.cell? ⟨w.heap.size + 1, 3, none⟩ = some (.int .i64 0) := hBres2_3 3 _ rfl
    have xres24 : w3.cell? ⟨w.heap.size + 1, 4, none⟩ = some (.int .i64 0) := hBres2_3 4 _ rfl
    have xres25 : w3.cell? ⟨w.heap.size + 1, 5, none⟩ = some (.int .i64 0) := hBres2_3 5 _ rfl
    have xres26 : w3.cell? ⟨w.heap.size + 1, 6, none⟩ = some (.int .i64 0) := hBres2_3 6 _ rfl
    have fres2 := hFres2_3
    go_upto_region 3 with fail
    have hSx : ∀ w', Turn [w.heap.size, w.heap.size + 1] w3 w' → ∀ oo, w'.cell? ⟨w1.heap.size, oo, none⟩ = w3.cell? ⟨w1.heap.size, oo, none⟩ := fun w' hx oo => hx.cell (by omega) (by simp; omega)
    refine wp_region_plan (fun w' => Turn [w.heap.size, w.heap.size + 1] w3 w') 3 (.float 0 (.float 1 (.chain 2 (.tail 3)))) (by kernel_rfl) (by kernel_rfl) (Turn.of_ext (Ext.refl _).drew _) ?_
    iterate 2 ((refine Plan.float_step (v := ?_) rfl (by rfl) (fun _ _ _ h => h) (fun w' hSw => ?_) ?_; rotate_left; · (go_simp; try with_reducible rfl)); (try simp only [Act.put, List.setIfInBounds_toArray, List.set_cons_zero, List.set_cons_succ]))
    refine Plan.chain_step rfl (fun K hK => ?_)
    go_simp
    refine hK.out _ _ (by repeat' (first | with_reducible exact Turn.refl _ _ | with_reducible refine Turn.set ?_ (.inl (by simp)) _ | with_reducible refine Turn.drew ?_)) ?_
    clear hK
    (try simp only [Act.put, List.setIfInBounds_toArray, List.set_cons_zero, List.set_cons_succ])
    refine Plan.tail_step ?_
    simp only [List.drop_succ_cons, List.drop_zero]
    clear hSx
    go_wp2
    refine bodyPost_ret (v := .tuple #[.agg #[.int .i64 b.pc, .int .i64 b.len, .slice A1 b.ops.length c1, .int .i64 b.fin, .int .i64 b.x, .int .i64 b.y, .int .i64 b.k], .agg #[.int .i64 b.pc, .int .i64 b.len, .slice A1 b.ops.length c1, .int .i64 b.fin, .int .i64 b.x, .int .i64 b.y, .int .i64 b.k]]) (by simp [results, Try.results34, go_sem, xres10, xres11, xres12, xres13, xres14, xres15, xres16, xres20, xres21, xres22, xres23, xres24, xres25, xres26]) rfl ⟨⟨b, b, A1, _, c1, _, rfl, ?_, ?_, hok, hok, hl49, hl49⟩, ?_, ?_⟩
    · exact GlO.down (lo := w0.heap.size) (GlO.turn (F := [w.heap.size, w.heap.size + 1]) hb (by repeat' (first | with_reducible exact Turn.refl _ _ | with_reducible refine Turn.set ?_ (.inl (by simp)) _ | with_reducible refine Turn.drew ?_)) (fun x hx => by simp at hx; omega)) (by omega)
    · exact GlO.down (lo := w0.heap.size) (GlO.turn (F := [w.heap.size, w.heap.size + 1]) hb (by repeat' (first | with_reducible exact Turn.refl _ _ | with_reducible refine Turn.set ?_ (.inl (by simp)) _ | with_reducible refine Turn.drew ?_)) (fun x hx => by simp at hx; omega)) (by omega)
    · exact (Rdr.hold hR3).up (by omega)
    · exact Turn.hold hT3
  · 
    go_wp2_with fail
    refine (pick_any rb base _ _ (Rdr.hold hR3) (by omega) 9 (by omega) (by omega)).mono ?_
    rintro e w4 ⟨⟨v, rfl, lv, qv⟩, hR4, hy⟩
    have uv : v < 9 := by omega
    clear qv
    have hs4 := hy.size
    try simp at hs4
    have hT4 : Turn [rb] w w4 := (Turn.hold hT3).trans hy
    have hBres1_4 : Bx w4 (w.heap.size) [.int .i64 0, .int .i64 0, .slice none 0 0, .int .i64 0, .int .i64 0, .int .i64 0, .int .i64 0] := hy.bx (Bx.hold hBres1_3) (by first | omega | (simp; done) | (simp; omega)) (by simp; omega)
    have hFres1_4 : ∀ oo, w4.frozen? ⟨w.heap.size, oo, none⟩ = false := fun oo => (hy.frozen (by first | omega | (simp; done) | (simp; omega)) (by simp; omega)).trans ((fz_hold hFres1_3) oo)
    have hBres2_4 : Bx w4 (w.heap.size + 1) [.int .i64 0, .int .i64 0, .slice none 0 0, .int .i64 0, .int .i64 0, .int .i64 0, .int .i64 0] := hy.bx (Bx.hold hBres2_3) (by first | omega | (simp; done) | (simp; omega)) (by simp; omega)
    have hFres2_4 : ∀ oo, w4.frozen? ⟨w.heap.size + 1, oo, none⟩ = false := fun oo => (hy.frozen (by first | omega | (simp; done) | (simp; omega)) (by simp; omega)).trans ((fz_hold hFres2_3) oo)
    have hBx_4 : Bx w4 (w1.heap.size) [.int .i64 b.pc, .int .i64 b.len, .slice A1 b.ops.length c1, .int .i64 b.fin, .int .i64 b.x, .int .i64 b.y, .int .i64 b.k] := hy.bx (Bx.hold hBx_3) (by first | omega | (simp; done) | (simp; omega)) (by simp; omega)
    have hFx_4 : ∀ oo, w4.frozen? ⟨w1.heap.size, oo, none⟩ = false := fun oo => (hy.frozen (by first | omega | (simp; done) | (simp; omega)) (by simp; omega)).trans ((fz_hold hFx_3) oo)
    clear hBres1_3 hFres1_3 hBres2_3 hFres2_3 hBx_3 hFx_3
    replace hb := GlO.turn (GlO.turn hb (Turn.of_ext Ext.auto []) (by simp)) hy (fun x hx => by simp at hx; omega)
    clear hy
    have hc : v = 0 ∨ v = 1 ∨ v = 2 ∨ v = 3 ∨ v = 4 ∨ v = 5 ∨ v = 6 ∨ v = 7 ∨ v = 8 := by omega
    clear lv uv
    rcases hc with rfl | rfl | rfl | rfl | rfl | rfl | rfl | rfl | rfl
    · 
      have yx : w1.heap.size < w4.heap.size := by omega
      have xx0 := hBx_4 0 _ rfl
      have xx1 := hBx_4 1 _ rfl
      have xx2 := hBx_4 2 _ rfl
      have xx3 := hBx_4 3 _ rfl
      have xx4 := hBx_4 4 _ rfl
      have xx5 := hBx_4 5 _ rfl
      have xx6 := hBx_4 6 _ rfl
      have fx := hFx_4
      have yres1 : w.heap.size < w4.heap.size := by omega
      have xres10 : w4.cell? ⟨w.heap.size, 0, none⟩ = some (.int .i64 0) := hBres1_4 0 _ rfl
      have xres11 : w4.cell? ⟨w.heap.size, 1, none⟩ = some (.int .i64 0) := hBres1_4 1 _ rfl
      have xres12 : w4.cell? ⟨w.heap.size, 2, none⟩ = some (.slice none 0 0) := hBres1_4 2 _ rfl
      have xres13 : w4.cell? ⟨w.heap.size, 3, none⟩ = some (.int .i64 0) := hBres1_4 3 _ rfl
      have xres14 : w4.cell? ⟨w.heap.size, 4, none⟩ = some (.int .i64 0) := hBres1_4 4 _ rfl
      have xres15 : w4.cell? ⟨w.heap.size, 5, none⟩ = some (.int .i64 0) := hBres1_4 5 _ rfl
      have xres16 : w4.cell? ⟨w.heap.size, 6, none⟩ = some (.int .i64 0) := hBres1_4 6 _ rfl
      have fres1 := hFres1_4
      have yres2 : w.heap.size + 1 < w4.heap.size := by omega
      have xres20 : w4.cell? ⟨w.heap.size + 1, 0, none⟩ = some (.int .i64 0) := hBres2_4 0 _ rfl
      have xres21 : w4.cell? ⟨w.heap.size + 1, 1, none⟩ = some (.int .i64 0) := hBres2_4 1 _ rfl
      have xres22 : w4.cell? ⟨w.heap.size + 1, 2, none⟩ = some (.slice none 0 0) := hBres2_4 2 _ rfl
      have xres23 : w4.cell? ⟨w.heap.size + 1, 3, none⟩ = some (.int .i64 0) := hBres2_4 3 _ rfl
      have xres24 : w4.cell? ⟨w.heap.size + 1, 4, none⟩ = some (.int .i64 0) := hBres2_4 4 _ rfl
      have xres25 : w4.cell? ⟨w.heap.size + 1, 5, none⟩ = some (.int .i64 0) := hBres2_4 5 _ rfl
      have xres26 : w4.cell? ⟨w.heap.size + 1, 6, none⟩ = some (.int .i64 0) := hBres2_4 6 _ rfl
      have fres2 := hFres2_4
      go_upto_region 6 with fail
      have hSx : ∀ w', Turn [rb] w4 w' → ∀ oo, w'.cell? ⟨w1.heap.size, oo, none⟩ = w4.cell? ⟨w1.heap.size, oo, none⟩ := fun w' hx oo => hx.cell (by omega) (by simp; omega)
      refine wp_region_plan (fun w' => Turn [rb] w4 w') 4 (.float 0 (.float 1 (.float 2 (.chain 3 (.tail 4))))) (by kernel_rfl) (by kernel_rfl) (Turn.of_ext (Ext.refl _).drew _) ?_
      clear xres10 xres11 xres12 xres13 xres14 xres15 xres16 yres1
      clear fres1
      clear xres20 xres21 xres22 xres23 xres24 xres25 xres26 yres2
      clear fres2
      iterate 3 ((refine Plan.float_step (v := ?_) rfl (by rfl) (fun _ _ _ h => h) (fun w' hSw => ?_) ?_; rotate_left; · (go_simp; try with_reducible rfl)); (try simp only [Act.put, List.setIfInBounds_toArray, List.set_cons_zero, List.set_cons_succ]))
      refine Plan.chain_step rfl (fun K hK => ?_)
      go_simp
      refine (l21Clever_any rb base _ _ (Rdr.hold hR4) (by omega) b _ (GlO.sl (GlO.turn hb (Turn.of_ext Ext.auto []) (by simp))) hok hbk).mono ?_
      rintro e w5 ⟨⟨d, A5, c5, rfl, hQ, hokd, hld⟩, hR5, hy⟩
      have hTd : Turn [rb] w4 w5 := Turn.pre Ext.auto hy
      refine hK.out _ _ hTd ?_
      clear hK
      (try simp only [Act.put, List.setIfInBounds_toArray, List.set_cons_zero, List.set_cons_succ])
      have hs5 := hy.size
      try simp at hs5
      have hT5 : Turn [rb] w w5 := (Turn.hold hT4).trans hy
      have hBres1_5 : Bx w5 (w.heap.size) [.int .i64 0, .int .i64 0, .slice none 0 0, .int .i64 0, .int .i64 0, .int .i64 0, .int .i64 0] := hy.bx (Bx.hold hBres1_4) (by first | omega | (simp; done) | (simp; omega)) (by simp; omega)
      have hFres1_5 : ∀ oo, w5.frozen? ⟨w.heap.size, oo, none⟩ = false := fun oo => (hy.frozen (by first | omega | (simp; done) | (simp; omega)) (by simp; omega)).trans ((fz_hold hFres1_4) oo)
      have hBres2_5 : Bx w5 (w.heap.size + 1) [.int .i64 0, .int .i64 0, .slice none 0 0, .int .i64 0, .int .i64 0, .int .i64 0, .int .i64 0] := hy.bx (Bx.hold hBres2_4) (by first | omega | (simp; done) | (simp; omega)) (by simp; omega)
      have hFres2_5 : ∀ oo, w5.frozen? ⟨w.heap.size + 1, oo, none⟩ = false := fun oo => (hy.frozen (by first | omega | (simp; done) | (simp; omega)) (by simp; omega)).trans ((fz_hold hFres2_4) oo)
      have hBx_5 : Bx w5 (w1.heap.size) [.int .i64 b.pc, .int .i64 b.len, .slice A1 b.ops.length c1, .int .i64 b.fin, .int .i64 b.x, .int .i64 b.y, .int .i64 b.k] := hy.bx (Bx.hold hBx_4) (by first | omega | (simp; done) | (simp; omega)) (by simp; omega)
      have hFx_5 : ∀ oo, w5.frozen? ⟨w1.heap.size, oo, none⟩ = false := fun oo => (hy.frozen (by first | omega | (simp; done) | (simp; omega)) (by simp; omega)).trans ((fz_hold hFx_4) oo)
      clear hBres1_4 hFres1_4 hBres2_4 hFres2_4 hBx_4 hFx_4
      replace hb := GlO.turn (GlO.turn hb (Turn.of_ext Ext.auto []) (by simp)) hy (fun x hx => by simp at hx; omega)
      clear hy
      have hTc := hTd
      clear hTd
      refine Plan.tail_step ?_
      simp only [List.drop_succ_cons, List.drop_zero]
      clear hSx
      try clear xx0 xx1 xx2 xx3 xx4 xx5 xx6 yx fx
      have yx : w1.heap.size < w5.heap.size := by omega
      have xx0 := hBx_5 0 _ rfl
      have xx1 := hBx_5 1 _ rfl
      have xx2 := hBx_5 2 _ rfl
      have xx3 := hBx_5 3 _ rfl
      have xx4 := hBx_5 4 _ rfl
      have xx5 := hBx_5 5 _ rfl
      have xx6 := hBx_5 6 _ rfl
      have fx := hFx_5
      have yres1 : w.heap.size < w5.heap.size := by omega
      have xres10 : w5.cell? ⟨w.heap.size, 0, none⟩ = some (.int .i64 0) := hBres1_5 0 _ rfl
      have xres11 : w5.cell? ⟨w.heap.size, 1, none⟩ = some (.int .i64 0) := hBres1_5 1 _ rfl
      have xres12 : w5.cell? ⟨w.heap.size, 2, none⟩ = some (.slice none 0 0) := hBres1_5 2 _ rfl
      have xres13 : w5.cell? ⟨w.heap.size, 3, none⟩ = some (.int .i64 0) := hBres1_5 3 _ rfl
      have xres14 : w5.cell? ⟨w.heap.size, 4, none⟩ = some (.int .i64 0) := hBres1_5 4 _ rfl
      have xres15 : w5.cell? ⟨w.heap.size, 5, none⟩ = some (.int .i64 0) := hBres1_5 5 _ rfl
      have xres16 : w5.cell? ⟨w.heap.size, 6, none⟩ = some (.int .i64 0) := hBres1_5 6 _ rfl
      have fres1 := hFres1_5
      have yres2 : w.heap.size + 1 < w5.heap.size := by omega
      have xres20 : w5.cell? ⟨w.heap.size + 1, 0, none⟩ = some (.int .i64 0) := hBres2_5 0 _ rfl
      have xres21 : w5.cell? ⟨w.heap.size + 1, 1, none⟩ = some (.int .i64 0) := hBres2_5 1 _ rfl
      have xres22 : w5.cell? ⟨w.heap.size + 1, 2, none⟩ = some (.slice none 0 0) := hBres2_5 2 _ rfl
      have xres23 : w5.cell? ⟨w.heap.size + 1, 3, none⟩ = some (.int .i64 0) := hBres2_5 3 _ rfl
      have xres24 : w5.cell? ⟨w.heap.size + 1, 4, none⟩ = some (.int .i64 0) := hBres2_5 4 _ rfl
      have xres25 : w5.cell? ⟨w.heap.size + 1, 5, none⟩ = some (.int .i64 0) := hBres2_5 5 _ rfl
      have xres26 : w5.cell? ⟨w.heap.size + 1, 6, none⟩ = some (.int .i64 0) := hBres2_5 6 _ rfl
      have fres2 := hFres2_5
      go_wp2
      refine bodyPost_ret (v := .tuple #[.agg #[.int .i64 b.pc, .int .i64 b.len, .slice A1 b.ops.length c1, .int .i64 b.fin, .int .i64 b.x, .int .i64 b.y, .int .i64 b.k], .agg #[.int .i64 d.pc, .int .i64 d.len, .slice A5 d.ops.length c5, .int .i64 d.fin, .int .i64 d.x, .int .i64 d.y, .int .i64 d.k]]) (by simp [results, Try.results34, go_sem, xres10, xres11, xres12, xres13, xres14, xres15, xres16, xres20, xres21, xres22, xres23, xres24, xres25, xres26]) rfl ⟨⟨b, d, A1, _, c1, _, rfl, ?_, ?_, hok, hokd, hl49, hld⟩, ?_, ?_⟩
      · exact GlO.down (lo := w0.heap.size) (GlO.turn (F := [w.heap.size, w.heap.size + 1]) hb (by repeat' (first | with_reducible exact Turn.refl _ _ | with_reducible refine Turn.set ?_ (.inl (by simp)) _ | with_reducible refine Turn.drew ?_)) (fun x hx => by simp at hx; omega)) (by omega)
      · exact GlO.down (lo := w0.heap.size) (GlO.turn (F := [w.heap.size, w.heap.size + 1]) (GlO.down (lo' := w0.heap.size) hQ (by first | omega | (simp; omega))) (by repeat' (first | with_reducible exact Turn.refl _ _ | with_reducible refine Turn.set ?_ (.inl (by simp)) _ | with_reducible refine Turn.drew ?_)) (fun x hx => by simp at hx; omega)) (by omega)
      · exact (Rdr.hold hR5).up (by omega)
      · exact Turn.hold hT5
    · 
      have yx : w1.heap.size < w4.heap.size := by omega
      have xx0 := hBx_4 0 _ rfl
      have xx1 := hBx_4 1 _ rfl
      have xx2 := hBx_4 2 _ rfl
      have xx3 := hBx_4 3 _ rfl
      have xx4 := hBx_4 4 _ rfl
      have xx5 := hBx_4 5 _ rfl
      have xx6 := hBx_4 6 _ rfl
      have fx := hFx_4
      have yres1 : w.heap.size < w4.heap.size := by omega
      have xres10 : w4.cell? ⟨w.heap.size, 0, none⟩ = some (.int .i64 0) := hBres1_4 0 _ rfl
      have xres11 : w4.cell? ⟨w.heap.size, 1, none⟩ = some (.int .i64 0) := hBres1_4 1 _ rfl
      have xres12 : w4.cell? ⟨w.heap.size, 2, none⟩ = some (.slice none 0 0) := hBres1_4 2 _ rfl
      have xres13 : w4.cell? ⟨w.heap.size, 3, none⟩ = some (.int .i64 0) := hBres1_4 3 _ rfl
      have xres14 : w4.cell? ⟨w.heap.size, 4, none⟩ = some (.int .i64 0) := hBres1_4 4 _ rfl
      have xres15 : w4.cell? ⟨w.heap.size, 5, none⟩ = some (.int .i64 0) := hBres1_4 5 _ rfl
      have xres16 : w4.cell? ⟨w.heap.size, 6, none⟩ = some (.int .i64 0) := hBres1_4 6 _ rfl
      have fres1 := hFres1_4
      have yres2 : w.heap.size + 1 < w4.heap.size := by omega
      have xres20 : w4.cell? ⟨w.heap.size + 1, 0, none⟩ = some (.int .i64 0) := hBres2_4 0 _ rfl
      have xres21 : w4.cell? ⟨w.heap.size + 1, 1, none⟩ = some (.int .i64 0) := hBres2_4 1 _ rfl
      have xres22 : w4.cell? ⟨w.heap.size + 1, 2, none⟩ = some (.slice none 0 0) := hBres2_4 2 _ rfl
      have xres23 : w4.cell? ⟨w.heap.size + 1, 3, none⟩ = some (.int .i64 0) := hBres2_4 3 _ rfl
      have xres24 : w4.cell? ⟨w.heap.size + 1, 4, none⟩ = some (.int .i64 0) := hBres2_4 4 _ rfl
      have xres25 : w4.cell? ⟨w.heap.size + 1, 5, none⟩ = some (.int .i64 0) := hBres2_4 5 _ rfl
      have xres26 : w4.cell? ⟨w.heap.size + 1, 6, none⟩ = some (.int .i64 0) := hBres2_4 6 _ rfl
      have fres2 := hFres2_4
      go_upto_region 8 with fail
      have hSx : ∀ w', Turn [rb] w4 w' → ∀ oo, w'.cell? ⟨w1.heap.size, oo, none⟩ = w4.cell? ⟨w1.heap.size, oo, none⟩ := fun w' hx oo => hx.cell (by omega) (by simp; omega)
      refine wp_region_plan (fun w' => Turn [rb] w4 w') 3 (.float 0 (.float 1 (.chain 2 (.tail 3)))) (by kernel_rfl) (by kernel_rfl) (Turn.of_ext (Ext.refl _).drew _) ?_
      clear xres10 xres11 xres12 xres13 xres14 xres15 xres16 yres1
      clear fres1
      clear xres20 xres21 xres22 xres23 xres24 xres25 xres26 yres2
      clear fres2
      iterate 2 ((refine Plan.float_step (v := ?_) rfl (by rfl) (fun _ _ _ h => h) (fun w' hSw => ?_) ?_; rotate_left; · (go_simp; try with_reducible rfl)); (try simp only [Act.put, List.setIfInBounds_toArray, List.set_cons_zero, List.set_cons_succ]))
      refine Plan.chain_step rfl (fun K hK => ?_)
      go_simp
      refine (specOptAll_any b _ _ (GlO.sl (GlO.turn hb (Turn.of_ext Ext.auto []) (by simp))) hok).mono ?_
      rintro e w5 ⟨r_, F_, rfl, ho_, hf_, hy⟩
      have hTd : Turn [rb] w4 w5 := Turn.of_ext (Ext.trans Ext.auto hy) _
      refine hK.out _ _ hTd ?_
      clear hK
      (try simp only [Act.put, List.setIfInBounds_toArray, List.set_cons_zero, List.set_cons_succ])
      have hs5 := hy.size
      try simp at hs5
      have hT5 : Turn [rb] w w5 := (Turn.hold hT4).call hy
      have hR5 := (Rdr.hold hR4).ext hy
      have hBres1_5 : Bx w5 (w.heap.size) [.int .i64 0, .int .i64 0, .slice none 0 0, .int .i64 0, .int .i64 0, .int .i64 0, .int .i64 0] := hy.bx (Bx.hold hBres1_4) (by first | omega | (simp; done) | (simp; omega))
      have hFres1_5 : ∀ oo, w5.frozen? ⟨w.heap.size, oo, none⟩ = false := fun oo => (hy.frozen (by first | omega | (simp; done) | (simp; omega))).trans ((fz_hold hFres1_4) oo)
      have hBres2_5 : Bx w5 (w.heap.size + 1) [.int .i64 0, .int .i64 0, .slice none 0 0, .int .i64 0, .int .i64 0, .int .i64 0, .int .i64 0] := hy.bx (Bx.hold hBres2_4) (by first | omega | (simp; done) | (simp; omega))
      have hFres2_5 : ∀ oo, w5.frozen? ⟨w.heap.size + 1, oo, none⟩ = false := fun oo => (hy.frozen (by first | omega | (simp; done) | (simp; omega))).trans ((fz_hold hFres2_4) oo)
      have hBx_5 : Bx w5 (w1.heap.size) [.int .i64 b.pc, .int .i64 b.len, .slice A1 b.ops.length c1, .int .i64 b.fin, .int .i64 b.x, .int .i64 b.y, .int .i64 b.k] := hy.bx (Bx.hold hBx_4) (by first | omega | (simp; done) | (simp; omega))
      have hFx_5 : ∀ oo, w5.frozen? ⟨w1.heap.size, oo, none⟩ = false := fun oo => (hy.frozen (by first | omega | (simp; done) | (simp; omega))).trans ((fz_hold hFx_4) oo)
      clear hBres1_4 hFres1_4 hBres2_4 hFres2_4 hBx_4 hFx_4
      replace hb := GlO.turn hb (Turn.of_ext (Ext.trans Ext.auto hy) []) (by simp)
      clear hy
      have hTc := hTd
      clear hTd
      have hO := GlO.down (lo' := w0.heap.size) (GlO.of_own ho_ hf_) (by first | omega | (simp; omega))
      obtain ⟨A6, c6, rfl, -, -⟩ := ho_.sl.form
      clear ho_ hf_
      have hlb := blk_optAll b
      rw [blk_ops, blk_ops] at hlb
      refine Plan.tail_step ?_
      simp only [List.drop_succ_cons, List.drop_zero]
      clear hSx
      try clear xx0 xx1 xx2 xx3 xx4 xx5 xx6 yx fx
      have yx : w1.heap.size < w5.heap.size := by omega
      have xx0 := hBx_5 0 _ rfl
      have xx1 := hBx_5 1 _ rfl
      have xx2 := hBx_5 2 _ rfl
      have xx3 := hBx_5 3 _ rfl
      have xx4 := hBx_5 4 _ rfl
      have xx5 := hBx_5 5 _ rfl
      have xx6 := hBx_5 6 _ rfl
      have fx := hFx_5
      have yres1 : w.heap.size < w5.heap.size := by omega
      have xres10 : w5.cell? ⟨w.heap.size, 0, none⟩ = some (.int .i64 0) := hBres1_5 0 _ rfl
      have xres11 : w5.cell? ⟨w.heap.size, 1, none⟩ = some (.int .i64 0) := hBres1_5 1 _ rfl
      have xres12 : w5.cell? ⟨w.heap.size, 2, none⟩ = some (.slice none 0 0) := hBres1_5 2 _ rfl
      have xres13 : w5.cell? ⟨w.heap.size, 3, none⟩ = some (.int .i64 0) := hBres1_5 3 _ rfl
      have xres14 : w5.cell? ⟨w.heap.size, 4, none⟩ = some (.int .i64 0) := hBres1_5 4 _ rfl
      have xres15 : w5.cell? ⟨w.heap.size, 5, none⟩ = some (.int .i64 0) := hBres1_5 5 _ rfl
      have xres16 : w5.cell? ⟨w.heap.size, 6, none⟩ = some (.int .i64 0) := hBres1_5 6 _ rfl
      have fres1 := hFres1_5
      have yres2 : w.heap.size + 1 < w5.heap.size := by omega
      have xres20 : w5.cell? ⟨w.heap.size + 1, 0, none⟩ = some (.int .i64 0) := hBres2_5 0 _ rfl
      have xres21 : w5.cell? ⟨w.heap.size + 1, 1, none⟩ = some (.int .i64 0) := hBres2_5 1 _ rfl
      have xres22 : w5.cell? ⟨w.heap.size + 1, 2, none⟩ = some (.slice none 0 0) := hBres2_5 2 _ rfl
      have xres23 : w5.cell? ⟨w.heap.size + 1, 3, none⟩ = some (.int .i64 0) := hBres2_5 3 _ rfl
      have xres24 : w5.cell? ⟨w.heap.size + 1, 4, none⟩ = some (.int .i64 0) := hBres2_5 4 _ rfl
      have xres25 : w5.cell? ⟨w.heap.size + 1, 5, none⟩ = some (.int .i64 0) := hBres2_5 5 _ rfl
      have xres26 : w5.cell? ⟨w.heap.size + 1, 6, none⟩ = some (.int .i64 0) := hBres2_5 6 _ rfl
      have fres2 := hFres2_5
      go_wp2
      refine bodyPost_ret (v := .tuple #[.agg #[.int .i64 b.pc, .int .i64 b.len, .slice A1 b.ops.length c1, .int .i64 b.fin, .int .i64 b.x, .int .i64 b.y, .int .i64 b.k], .agg #[.int .i64 ((optAll b).pc), .int .i64 ((optAll b).len), .slice A6 (optAll b).ops.length c6, .int .i64 ((optAll b).fin), .int .i64 ((optAll b).x), .int .i64 ((optAll b).y), .int .i64 ((optAll b).k)]]) (by simp [results, Try.results34, go_sem, xres10, xres11, xres12, xres13, xres14, xres15, xres16, xres20, xres21, xres22, xres23, xres24, xres25, xres26]) rfl ⟨⟨b, (optAll b), A1, _, c1, _, rfl, ?_, ?_, hok, (ok_optAll hok), hl49, (by omega)⟩, ?_, ?_⟩
      · exact GlO.down (lo := w0.heap.size) (GlO.turn (F := [w.heap.size, w.heap.size + 1]) hb (by repeat' (first | with_reducible exact Turn.refl _ _ | with_reducible refine Turn.set ?_ (.inl (by simp)) _ | with_reducible refine Turn.drew ?_)) (fun x hx => by simp at hx; omega)) (by omega)
      · exact GlO.down (lo := w0.heap.size) (GlO.turn (F := [w.heap.size, w.heap.size + 1]) (GlO.down (lo' := w0.heap.size) hO (by first | omega | (simp; omega))) (by repeat' (first | with_reducible exact Turn.refl _ _ | with_reducible refine Turn.set ?_ (.inl (by simp)) _ | with_reducible refine Turn.drew ?_)) (fun x hx => by simp at hx; omega)) (by omega)
      · exact (Rdr.hold hR5).up (by omega)
      · exact Turn.hold hT5
    · 
      have yx : w1.heap.size < w4.heap.size := by omega
      have xx0 := hBx_4 0 _ rfl
      have xx1 := hBx_4 1 _ rfl
      have xx2 := hBx_4 2 _ rfl
      have xx3 := hBx_4 3 _ rfl
      have xx4 := hBx_4 4 _ rfl
      have xx5 := hBx_4 5 _ rfl
      have xx6 := hBx_4 6 _ rfl
      have fx := hFx_4
      have yres1 : w.heap.size < w4.heap.size := by omega
      have xres10 : w4.cell? ⟨w.heap.size, 0, none⟩ = some (.int .i64 0) := hBres1_4 0 _ rfl
      have xres11 : w4.cell? ⟨w.heap.size, 1, none⟩ = some (.int .i64 0) := hBres1_4 1 _ rfl
      have xres12 : w4.cell? ⟨w.heap.size, 2, none⟩ = some (.slice none 0 0) := hBres1_4 2 _ rfl
      have xres13 : w4.cell? ⟨w.heap.size, 3, none⟩ = some (.int .i64 0) := hBres1_4 3 _ rfl
      have xres14 : w4.cell? ⟨w.heap.size, 4, none⟩ = some (.int .i64 0) := hBres1_4 4 _ rfl
      have xres15 : w4.cell? ⟨w.heap.size, 5, none⟩ = some (.int .i64 0) := hBres1_4 5 _ rfl
      have xres16 : w4.cell? ⟨w.heap.size, 6, none⟩ = some (.int .i64 0) := hBres1_4 6 _ rfl
      have fres1 := hFres1_4
      have yres2 : w.heap.size + 1 < w4.heap.size := by omega
      have xres20 : w4.cell? ⟨w.heap.size + 1, 0, none⟩ = some (.int .i64 0) := hBres2_4 0 _ rfl
      have xres21 : w4.cell? ⟨w.heap.size + 1, 1, none⟩ = some (.int .i64 0) := hBres2_4 1 _ rfl
      have xres22 : w4.cell? ⟨w.heap.size + 1, 2, none⟩ = some (.slice none 0 0) := hBres2_4 2 _ rfl
      have xres23 : w4.cell? ⟨w.heap.size + 1, 3, none⟩ = some (.int .i64 0) := hBres2_4 3 _ rfl
      have xres24 : w4.cell? ⟨w.heap.size + 1, 4, none⟩ = some (.int .i64 0) := hBres2_4 4 _ rfl
      have xres25 : w4.cell? ⟨w.heap.size + 1, 5, none⟩ = some (.int .i64 0) := hBres2_4 5 _ rfl
      have xres26 : w4.cell? ⟨w.heap.size + 1, 6, none⟩ = some (.int .i64 0) := hBres2_4 6 _ rfl
      have fres2 := hFres2_4
      go_upto_region 10 with fail
      have hSx : ∀ w', Turn [rb] w4 w' → ∀ oo, w'.cell? ⟨w1.heap.size, oo, none⟩ = w4.cell? ⟨w1.heap.size, oo, none⟩ := fun w' hx oo => hx.cell (by omega) (by simp; omega)
      refine wp_region_plan (fun w' => Turn [rb] w4 w') 5 (.float 0 (.float 1 (.float 2 (.chain 3 (.chain 4 (.tail 5)))))) (by kernel_rfl) (by kernel_rfl) (Turn.of_ext (Ext.refl _).drew _) ?_
      clear xres10 xres11 xres12 xres13 xres14 xres15 xres16 yres1
      clear fres1
      clear xres20 xres21 xres22 xres23 xres24 xres25 xres26 yres2
      clear fres2
      iterate 3 ((refine Plan.float_step (v := ?_) rfl (by rfl) (fun _ _ _ h => h) (fun w' hSw => ?_) ?_; rotate_left; · (go_simp; try with_reducible rfl)); (try simp only [Act.put, List.setIfInBounds_toArray, List.set_cons_zero, List.set_cons_succ]))
      refine Plan.chain_step rfl (fun K hK => ?_)
      go_simp
      refine (l21Clever_any rb base _ _ (Rdr.hold hR4) (by omega) b _ (GlO.sl (GlO.turn hb (Turn.of_ext Ext.auto []) (by simp))) hok hbk).mono ?_
      rintro e w5 ⟨⟨d, A5, c5, rfl, hQ, hokd, hld⟩, hR5, hy⟩
      have hTd : Turn [rb] w4 w5 := Turn.pre Ext.auto hy
      refine hK.out _ _ hTd ?_
      clear hK
      (try simp only [Act.put, List.setIfInBounds_toArray, List.set_cons_zero, List.set_cons_succ])
      have hs5 := hy.size
      try simp at hs5
      have hT5 : Turn [rb] w w5 := (Turn.hold hT4).trans hy
      have hBres1_5 : Bx w5 (w.heap.size) [.int .i64 0, .int .i64 0, .slice none 0 0, .int .i64 0, .int .i64 0, .int .i64 0, .int .i64 0] := hy.bx (Bx.hold hBres1_4) (by first | omega | (simp; done) | (simp; omega)) (by simp; omega)
      have hFres1_5 : ∀ oo, w5.frozen? ⟨w.heap.size, oo, none⟩ = false := fun oo => (hy.frozen (by first | omega | (simp; done) | (simp; omega)) (by simp; omega)).trans ((fz_hold hFres1_4) oo)
      have hBres2_5 : Bx w5 (w.heap.size + 1) [.int .i64 0, .int .i64 0, .slice none 0 0, .int .i64 0, .int .i64 0, .int .i64 0, .int .i64 0] := hy.bx (Bx.hold hBres2_4) (by first | omega | (simp; done) | (simp; omega)) (by simp; omega)
      have hFres2_5 : ∀ oo, w5.frozen? ⟨w.heap.size + 1, oo, none⟩ = false := fun oo => (hy.frozen (by first | omega | (simp; done) | (simp; omega)) (by simp; omega)).trans ((fz_hold hFres2_4) oo)
      have hBx_5 : Bx w5 (w1.heap.size) [.int .i64 b.pc, .int .i64 b.len, .slice A1 b.ops.length c1, .int .i64 b.fin, .int .i64 b.x, .int .i64 b.y, .int .i64 b.k] := hy.bx (Bx.hold hBx_4) (by first | omega | (simp; done) | (simp; omega)) (by simp; omega)
      have hFx_5 : ∀ oo, w5.frozen? ⟨w1.heap.size, oo, none⟩ = false := fun oo => (hy.frozen (by first | omega | (simp; done) | (simp; omega)) (by simp; omega)).trans ((fz_hold hFx_4) oo)
      clear hBres1_4 hFres1_4 hBres2_4 hFres2_4 hBx_4 hFx_4
      replace hb := GlO.turn (GlO.turn hb (Turn.of_ext Ext.auto []) (by simp)) hy (fun x hx => by simp at hx; omega)
      clear hy
      have hTc := hTd
      clear hTd
      refine Plan.chain_step rfl (fun K hK => ?_)
      go_simp
      refine (specOptAll_any d _ _ (GlO.sl (GlO.turn hQ (Turn.of_ext Ext.auto []) (by simp))) hokd).mono ?_
      rintro e w6 ⟨r_, F_, rfl, ho_, hf_, hy⟩
      have hTd : Turn [rb] w4 w6 := hTc.call hy
      refine hK.out _ _ hTd ?_
      clear hK
      (try simp only [Act.put, List.setIfInBounds_toArray, List.set_cons_zero, List.set_cons_succ])
      have hs6 := hy.size
      try simp at hs6
      have hT6 : Turn [rb] w w6 := (Turn.hold hT5).call hy
      have hR6 := (Rdr.hold hR5).ext hy
      have hBres1_6 : Bx w6 (w.heap.size) [.int .i64 0, .int .i64 0, .slice none 0 0, .int .i64 0, .int .i64 0, .int .i64 0, .int .i64 0] := hy.bx (Bx.hold hBres1_5) (by first | omega | (simp; done) | (simp; omega))
      have hFres1_6 : ∀ oo, w6.frozen? ⟨w.heap.size, oo, none⟩ = false := fun oo => (hy.frozen (by first | omega | (simp; done) | (simp; omega))).trans ((fz_hold hFres1_5) oo)
      have hBres2_6 : Bx w6 (w.heap.size + 1) [.int .i64 0, .int .i64 0, .slice none 0 0, .int .i64 0, .int .i64 0, .int .i64 0, .int .i64 0] := hy.bx (Bx.hold hBres2_5) (by first | omega | (simp; done) | (simp; omega))
      have hFres2_6 : ∀ oo, w6.frozen? ⟨w.heap.size + 1, oo, none⟩ = false := fun oo => (hy.frozen (by first | omega | (simp; done) | (simp; omega))).trans ((fz_hold hFres2_5) oo)
      have hBx_6 : Bx w6 (w1.heap.size) [.int .i64 b.pc, .int .i64 b.len, .slice A1 b.ops.length c1, .int .i64 b.fin, .int .i64 b.x, .int .i64 b.y, .int .i64 b.k] := hy.bx (Bx.hold hBx_5) (by first | omega | (simp; done) | (simp; omega))
      have hFx_6 : ∀ oo, w6.frozen? ⟨w1.heap.size, oo, none⟩ = false := fun oo => (hy.frozen (by first | omega | (simp; done) | (simp; omega))).trans ((fz_hold hFx_5) oo)
      clear hBres1_5 hFres1_5 hBres2_5 hFres2_5 hBx_5 hFx_5
      replace hb := GlO.turn hb (Turn.of_ext (Ext.trans Ext.auto hy) []) (by simp)
      replace hQ := GlO.turn hQ (Turn.of_ext (Ext.trans Ext.auto hy) []) (by simp)
      clear hy hTc
      have hTc := hTd
      clear hTd
      have hO := GlO.down (lo' := w0.heap.size) (GlO.of_own ho_ hf_) (by first | omega | (simp; omega))
      obtain ⟨A6, c6, rfl, -, -⟩ := ho_.sl.form
      clear ho_ hf_
      have hlb := blk_optAll d
      rw [blk_ops, blk_ops] at hlb
      refine Plan.tail_step ?_
      simp only [List.drop_succ_cons, List.drop_zero]
      clear hSx
      try clear xx0 xx1 xx2 xx3 xx4 xx5 xx6 yx fx
      have yx : w1.heap.size < w6.heap.size := by omega
      have xx0 := hBx_6 0 _ rfl
      have xx1 := hBx_6 1 _ rfl
      have xx2 := hBx_6 2 _ rfl
      have xx3 := hBx_6 3 _ rfl
      have xx4 := hBx_6 4 _ rfl
      have xx5 := hBx_6 5 _ rfl
      have xx6 := hBx_6 6 _ rfl
      have fx := hFx_6
      have yres1 : w.heap.size < w6.heap.size := by omega
      have xres10 : w6.cell? ⟨w.heap.size, 0, none⟩ = some (.int .i64 0) := hBres1_6 0 _ rfl
      have xres11 : w6.cell? ⟨w.heap.size, 1, none⟩ = some (.int .i64 0) := hBres1_6 1 _ rfl
      have xres12 : w6.cell? ⟨w.heap.size, 2, none⟩ = some (.slice none 0 0) := hBres1_6 2 _ rfl
      have xres13 : w6.cell? ⟨w.heap.size, 3, none⟩ = some (.int .i64 0) := hBres1_6 3 _ rfl
      have xres14 : w6.cell? ⟨w.heap.size, 4, none⟩ = some (.int .i64 0) := hBres1_6 4 _ rfl
      have xres15 : w6.cell? ⟨w.heap.size, 5, none⟩ = some (.int .i64 0) := hBres1_6 5 _ rfl
      have xres16 : w6.cell? ⟨w.heap.size, 6, none⟩ = some (.int .i64 0) := hBres1_6 6 _ rfl
      have fres1 := hFres1_6
      have yres2 : w.heap.size + 1 < w6.heap.size := by omega
      have xres20 : w6.cell? ⟨w.heap.size + 1, 0, none⟩ = some (.int .i64 0) := hBres2_6 0 _ rfl
      have xres21 : w6.cell? ⟨w.heap.size + 1, 1, none⟩ = some (.int .i64 0) := hBres2_6 1 _ rfl
      have xres22 : w6.cell? ⟨w.heap.size + 1, 2, none⟩ = some (.slice none 0 0) := hBres2_6 2 _ rfl
      have xres23 : w6.cell? ⟨w.heap.size + 1, 3, none⟩ = some (.int .i64 0) := hBres2_6 3 _ rfl
      have xres24 : w6.cell? ⟨w.heap.size + 1, 4, none⟩ = some (.int .i64 0) := hBres2_6 4 _ rfl
      have xres25 : w6.cell? ⟨w.heap.size + 1, 5, none⟩ = some (.int .i64 0) := hBres2_6 5 _ rfl
      have xres26 : w6.cell? ⟨w.heap.size + 1, 6, none⟩ = some (.int .i64 0) := hBres2_6 6 _ rfl
      have fres2 := hFres2_6
      go_wp2
      refine bodyPost_ret (v := .tuple #[.agg #[.int .i64 b.pc, .int .i64 b.len, .slice A1 b.ops.length c1, .int .i64 b.fin, .int .i64 b.x, .int .i64 b.y, .int .i64 b.k], .agg #[.int .i64 ((optAll d).pc), .int .i64 ((optAll d).len), .slice A6 (optAll d).ops.length c6, .int .i64 ((optAll d).fin), .int .i64 ((optAll d).x), .int .i64 ((optAll d).y), .int .i64 ((optAll d).k)]]) (by simp [results, Try.results34, go_sem, xres10, xres11, xres12, xres13, xres14, xres15, xres16, xres20, xres21, xres22, xres23, xres24, xres25, xres26]) rfl ⟨⟨b, (optAll d), A1, _, c1, _, rfl, ?_, ?_, hok, (ok_optAll hokd), hl49, (by omega)⟩, ?_, ?_⟩
      · exact GlO.down (lo := w0.heap.size) (GlO.turn (F := [w.heap.size, w.heap.size + 1]) hb (by repeat' (first | with_reducible exact Turn.refl _ _ | with_reducible refine Turn.set ?_ (.inl (by simp)) _ | with_reducible refine Turn.drew ?_)) (fun x hx => by simp at hx; omega)) (by omega)
      · exact GlO.down (lo := w0.heap.size) (GlO.turn (F := [w.heap.size, w.heap.size + 1]) (GlO.down (lo' := w0.heap.size) hO (by first | omega | (simp; omega))) (by repeat' (first | with_reducible exact Turn.refl _ _ | with_reducible refine Turn.set ?_ (.inl (by simp)) _ | with_reducible refine Turn.drew ?_)) (fun x hx => by simp at hx; omega)) (by omega)
      · exact (Rdr.hold hR6).up (by omega)
      · exact Turn.hold hT6
    · 
      have yx : w1.heap.size < w4.heap.size := by omega
      have xx0 := hBx_4 0 _ rfl
      have xx1 := hBx_4 1 _ rfl
      have xx2 := hBx_4 2 _ rfl
      have xx3 := hBx_4 3 _ rfl
      have xx4 := hBx_4 4 _ rfl
      have xx5 := hBx_4 5 _ rfl
      have xx6 := hBx_4 6 _ rfl
      have fx := hFx_4
      have yres1 : w.heap.size < w4.heap.size := by omega
      have xres10 : w4.cell? ⟨w.heap.size, 0, none⟩ = some (.int .i64 0) := hBres1_4 0 _ rfl
      have xres11 : w4.cell? ⟨w.heap.size, 1, none⟩ = some (.int .i64 0) := hBres1_4 1 _ rfl
      have xres12 : w4.cell? ⟨w.heap.size, 2, none⟩ = some (.slice none 0 0) := hBres1_4 2 _ rfl
      have xres13 : w4.cell? ⟨w.heap.size, 3, none⟩ = some (.int .i64 0) := hBres1_4 3 _ rfl
      have xres14 : w4.cell? ⟨w.heap.size, 4, none⟩ = some (.int .i64 0) := hBres1_4 4 _ rfl
      have xres15 : w4.cell? ⟨w.heap.size, 5, none⟩ = some (.int .i64 0) := hBres1_4 5 _ rfl
      have xres16 : w4.cell? ⟨w.heap.size, 6, none⟩ = some (.int .i64 0) := hBres1_4 6 _ rfl
      have fres1 := hFres1_4
      have yres2 : w.heap.size + 1 < w4.heap.size := by omega
      have xres20 : w4.cell? ⟨w.heap.size + 1, 0, none⟩ = some (.int .i64 0) := hBres2_4 0 _ rfl
      have xres21 : w4.cell? ⟨w.heap.size + 1, 1, none⟩ = some (.int .i64 0) := hBres2_4 1 _ rfl
      have xres22 : w4.cell? ⟨w.heap.size + 1, 2, none⟩ = some (.slice none 0 0) := hBres2_4 2 _ rfl
      have xres23 : w4.cell? ⟨w.heap.size + 1, 3, none⟩ = some (.int .i64 0) := hBres2_4 3 _ rfl
      have xres24 : w4.cell? ⟨w.heap.size + 1, 4, none⟩ = some (.int .i64 0) := hBres2_4 4 _ rfl
      have xres25 : w4.cell? ⟨w.heap.size + 1, 5, none⟩ = some (.int .i64 0) := hBres2_4 5 _ rfl
      have xres26 : w4.cell? ⟨w.heap.size + 1, 6, none⟩ = some (.int .i64 0) := hBres2_4 6 _ rfl
      have fres2 := hFres2_4
      go_upto_region 12 with fail
      have hSx : ∀ w', Turn [rb] w4 w' → ∀ oo, w'.cell? ⟨w1.heap.size, oo, none⟩ = w4.cell? ⟨w1.heap.size, oo, none⟩ := fun w' hx oo => hx.cell (by omega) (by simp; omega)
      refine wp_region_plan (fun w' => Turn [rb] w4 w') 4 (.float 0 (.float 1 (.float 2 (.chain 3 (.tail 4))))) (by kernel_rfl) (by kernel_rfl) (Turn.of_ext (Ext.refl _).drew _) ?_
      clear xres10 xres11 xres12 xres13 xres14 xres15 xres16 yres1
      clear fres1
      clear xres20 xres21 xres22 xres23 xres24 xres25 xres26 yres2
      clear fres2
      iterate 3 ((refine Plan.float_step (v := ?_) rfl (by rfl) (fun _ _ _ h => h) (fun w' hSw => ?_) ?_; rotate_left; · (go_simp; try with_reducible rfl)); (try simp only [Act.put, List.setIfInBounds_toArray, List.set_cons_zero, List.set_cons_succ]))
      refine Plan.chain_step rfl (fun K hK => ?_)
      go_simp
      refine (l21Bent_any rb base _ _ (Rdr.hold hR4) (by omega) b _ (GlO.sl (GlO.turn hb (Turn.of_ext Ext.auto []) (by simp))) hok (by omega) (by have := (ok_len hbk); omega) (by have := (ok_len hbk); omega)).mono ?_
      rintro e w5 ⟨⟨d, A5, c5, rfl, hQ, hokd, hld⟩, hR5, hy⟩
      have hTd : Turn [rb] w4 w5 := Turn.pre Ext.auto hy
      refine hK.out _ _ hTd ?_
      clear hK
      (try simp only [Act.put, List.setIfInBounds_toArray, List.set_cons_zero, List.set_cons_succ])
      have hs5 := hy.size
      try simp at hs5
      have hT5 : Turn [rb] w w5 := (Turn.hold hT4).trans hy
      have hBres1_5 : Bx w5 (w.heap.size) [.int .i64 0, .int .i64 0, .slice none 0 0, .int .i64 0, .int .i64 0, .int .i64 0, .int .i64 0] := hy.bx (Bx.hold hBres1_4) (by first | omega | (simp; done) | (simp; omega)) (by simp; omega)
      have hFres1_5 : ∀ oo, w5.frozen? ⟨w.heap.size, oo, none⟩ = false := fun oo => (hy.frozen (by first | omega | (simp; done) | (simp; omega)) (by simp; omega)).trans ((fz_hold hFres1_4) oo)
      have hBres2_5 : Bx w5 (w.heap.size + 1) [.int .i64 0, .int .i64 0, .slice none 0 0, .int .i64 0, .int .i64 0, .int .i64 0, .int .i64 0] := hy.bx (Bx.hold hBres2_4) (by first | omega | (simp; done) | (simp; omega)) (by simp; omega)
      have hFres2_5 : ∀ oo, w5.frozen? ⟨w.heap.size + 1, oo, none⟩ = false := fun oo => (hy.frozen (by first | omega | (simp; done) | (simp; omega)) (by simp; omega)).trans ((fz_hold hFres2_4) oo)
      have hBx_5 : Bx w5 (w1.heap.size) [.int .i64 b.pc, .int .i64 b.len, .slice A1 b.ops.length c1, .int .i64 b.fin, .int .i64 b.x, .int .i64 b.y, .int .i64 b.k] := hy.bx (Bx.hold hBx_4) (by first | omega | (simp; done) | (simp; omega)) (by simp; omega)
      have hFx_5 : ∀ oo, w5.frozen? ⟨w1.heap.size, oo, none⟩ = false := fun oo => (hy.frozen (by first | omega | (simp; done) | (simp; omega)) (by simp; omega)).trans ((fz_hold hFx_4) oo)
      clear hBres1_4 hFres1_4 hBres2_4 hFres2_4 hBx_4 hFx_4
      replace hb := GlO.turn (GlO.turn hb (Turn.of_ext Ext.auto []) (by simp)) hy (fun x hx => by simp at hx; omega)
      clear hy
      have hTc := hTd
      clear hTd
      refine Plan.tail_step ?_
      simp only [List.drop_succ_cons, List.drop_zero]
      clear hSx
      try clear xx0 xx1 xx2 xx3 xx4 xx5 xx6 yx fx
      have yx : w1.heap.size < w5.heap.size := by omega
      have xx0 := hBx_5 0 _ rfl
      have xx1 := hBx_5 1 _ rfl
      have xx2 := hBx_5 2 _ rfl
      have xx3 := hBx_5 3 _ rfl
      have xx4 := hBx_5 4 _ rfl
      have xx5 := hBx_5 5 _ rfl
      have xx6 := hBx_5 6 _ rfl
      have fx := hFx_5
      have yres1 : w.heap.size < w5.heap.size := by omega
      have xres10 : w5.cell? ⟨w.heap.size, 0, none⟩ = some (.int .i64 0) := hBres1_5 0 _ rfl
      have xres11 : w5.cell? ⟨w.heap.size, 1, none⟩ = some (.int .i64 0) := hBres1_5 1 _ rfl
      have xres12 : w5.cell? ⟨w.heap.size, 2, none⟩ = some (.slice none 0 0) := hBres1_5 2 _ rfl
      have xres13 : w5.cell? ⟨w.heap.size, 3, none⟩ = some (.int .i64 0) := hBres1_5 3 _ rfl
      have xres14 : w5.cell? ⟨w.heap.size, 4, none⟩ = some (.int .i64 0) := hBres1_5 4 _ rfl
      have xres15 : w5.cell? ⟨w.heap.size, 5, none⟩ = some (.int .i64 0) := hBres1_5 5 _ rfl
      have xres16 : w5.cell? ⟨w.heap.size, 6, none⟩ = some (.int .i64 0) := hBres1_5 6 _ rfl
      have fres1 := hFres1_5
      have yres2 : w.heap.size + 1 < w5.heap.size := by omega
      have xres20 : w5.cell? ⟨w.heap.size + 1, 0, none⟩ = some (.int .i64 0) := hBres2_5 0 _ rfl
      have xres21 : w5.cell? ⟨w.heap.size + 1, 1, none⟩ = some (.int .i64 0) := hBres2_5 1 _ rfl
      have xres22 : w5.cell? ⟨w.heap.size + 1, 2, none⟩ = some (.slice none 0 0) := hBres2_5 2 _ rfl
      have xres23 : w5.cell? ⟨w.heap.size + 1, 3, none⟩ = some (.int .i64 0) := hBres2_5 3 _ rfl
      have xres24 : w5.cell? ⟨w.heap.size + 1, 4, none⟩ = some (.int .i64 0) := hBres2_5 4 _ rfl
      have xres25 : w5.cell? ⟨w.heap.size + 1, 5, none⟩ = some (.int .i64 0) := hBres2_5 5 _ rfl
      have xres26 : w5.cell? ⟨w.heap.size + 1, 6, none⟩ = some (.int .i64 0) := hBres2_5 6 _ rfl
      have fres2 := hFres2_5
      go_wp2
      refine bodyPost_ret (v := .tuple #[.agg #[.int .i64 b.pc, .int .i64 b.len, .slice A1 b.ops.length c1, .int .i64 b.fin, .int .i64 b.x, .int .i64 b.y, .int .i64 b.k], .agg #[.int .i64 d.pc, .int .i64 d.len, .slice A5 d.ops.length c5, .int .i64 d.fin, .int .i64 d.x, .int .i64 d.y, .int .i64 d.k]]) (by simp [results, Try.results34, go_sem, xres10, xres11, xres12, xres13, xres14, xres15, xres16, xres20, xres21, xres22, xres23, xres24, xres25, xres26]) rfl ⟨⟨b, d, A1, _, c1, _, rfl, ?_, ?_, hok, hokd, hl49, hld⟩, ?_, ?_⟩
      · exact GlO.down (lo := w0.heap.size) (GlO.turn (F := [w.heap.size, w.heap.size + 1]) hb (by repeat' (first | with_reducible exact Turn.refl _ _ | with_reducible refine Turn.set ?_ (.inl (by simp)) _ | with_reducible refine Turn.drew ?_)) (fun x hx => by simp at hx; omega)) (by omega)
      · exact GlO.down (lo := w0.heap.size) (GlO.turn (F := [w.heap.size, w.heap.size + 1]) (GlO.down (lo' := w0.heap.size) hQ (by first | omega | (simp; omega))) (by repeat' (first | with_reducible exact Turn.refl _ _ | with_reducible refine Turn.set ?_ (.inl (by simp)) _ | with_reducible refine Turn.drew ?_)) (fun x hx => by simp at hx; omega)) (by omega)
      · exact (Rdr.hold hR5).up (by omega)
      · exact Turn.hold hT5
    · 
      have yx : w1.heap.size < w4.heap.size := by omega
      have xx0 := hBx_4 0 _ rfl
      have xx1 := hBx_4 1 _ rfl
      have xx2 := hBx_4 2 _ rfl
      have xx3 := hBx_4 3 _ rfl
      have xx4 := hBx_4 4 _ rfl
      have xx5 := hBx_4 5 _ rfl
      have xx6 := hBx_4 6 _ rfl
      have fx := hFx_4
      have yres1 : w.heap.size < w4.heap.size := by omega
      have xres10 : w4.cell? ⟨w.heap.size, 0, none⟩ = some (.int .i64 0) := hBres1_4 0 _ rfl
      have xres11 : w4.cell? ⟨w.heap.size, 1, none⟩ = some (.int .i64 0) := hBres1_4 1 _ rfl
      have xres12 : w4.cell? ⟨w.heap.size, 2, none⟩ = some (.slice none 0 0) := hBres1_4 2 _ rfl
      have xres13 : w4.cell? ⟨w.heap.size, 3, none⟩ = some (.int .i64 0) := hBres1_4 3 _ rfl
      have xres14 : w4.cell? ⟨w.heap.size, 4, none⟩ = some (.int .i64 0) := hBres1_4 4 _ rfl
      have xres15 : w4.cell? ⟨w.heap.size, 5, none⟩ = some (.int .i64 0) := hBres1_4 5 _ rfl
      have xres16 : w4.cell? ⟨w.heap.size, 6, none⟩ = some (.int .i64 0) := hBres1_4 6 _ rfl
      have fres1 := hFres1_4
      have yres2 : w.heap.size + 1 < w4.heap.size := by omega
      have xres20 : w4.cell? ⟨w.heap.size + 1, 0, none⟩ = some (.int .i64 0) := hBres2_4 0 _ rfl
      have xres21 : w4.cell? ⟨w.heap.size + 1, 1, none⟩ = some (.int .i64 0) := hBres2_4 1 _ rfl
      have xres22 : w4.cell? ⟨w.heap.size + 1, 2, none⟩ = some (.slice none 0 0) := hBres2_4 2 _ rfl
      have xres23 : w4.cell? ⟨w.heap.size + 1, 3, none⟩ = some (.int .i64 0) := hBres2_4 3 _ rfl
      have xres24 : w4.cell? ⟨w.heap.size + 1, 4, none⟩ = some (.int .i64 0) := hBres2_4 4 _ rfl
      have xres25 : w4.cell? ⟨w.heap.size + 1, 5, none⟩ = some (.int .i64 0) := hBres2_4 5 _ rfl
      have xres26 : w4.cell? ⟨w.heap.size + 1, 6, none⟩ = some (.int .i64 0) := hBres2_4 6 _ rfl
      have fres2 := hFres2_4
      go_upto_region 14 with fail
      have hSx : ∀ w', Turn [rb] w4 w' → ∀ oo, w'.cell? ⟨w1.heap.size, oo, none⟩ = w4.cell? ⟨w1.heap.size, oo, none⟩ := fun w' hx oo => hx.cell (by omega) (by simp; omega)
      refine wp_region_plan (fun w' => Turn [rb] w4 w') 5 (.float 0 (.float 1 (.float 2 (.chain 3 (.chain 4 (.tail 5)))))) (by kernel_rfl) (by kernel_rfl) (Turn.of_ext (Ext.refl _).drew _) ?_
      clear xres10 xres11 xres12 xres13 xres14 xres15 xres16 yres1
      clear fres1
      clear xres20 xres21 xres22 xres23 xres24 xres25 xres26 yres2
      clear fres2
      iterate 3 ((refine Plan.float_step (v := ?_) rfl (by rfl) (fun _ _ _ h => h) (fun w' hSw => ?_) ?_; rotate_left; · (go_simp; try with_reducible rfl)); (try simp only [Act.put, List.setIfInBounds_toArray, List.set_cons_zero, List.set_cons_succ]))
      refine Plan.chain_step rfl (fun K hK => ?_)
      go_simp
      refine (specOptAll_any b _ _ (GlO.sl (GlO.turn hb (Turn.of_ext Ext.auto []) (by simp))) hok).mono ?_
      rintro e w5 ⟨r_, F_, rfl, ho_, hf_, hy⟩
      have hTd : Turn [rb] w4 w5 := Turn.of_ext (Ext.trans Ext.auto hy) _
      refine hK.out _ _ hTd ?_
      clear hK
      (try simp only [Act.put, List.setIfInBounds_toArray, List.set_cons_zero, List.set_cons_succ])
      have hs5 := hy.size
      try simp at hs5
      have hT5 : Turn [rb] w w5 := (Turn.hold hT4).call hy
      have hR5 := (Rdr.hold hR4).ext hy
      have hBres1_5 : Bx w5 (w.heap.size) [.int .i64 0, .int .i64 0, .slice none 0 0, .int .i64 0, .int .i64 0, .int .i64 0, .int .i64 0] := hy.bx (Bx.hold hBres1_4) (by first | omega | (simp; done) | (simp; omega))
      have hFres1_5 : ∀ oo, w5.frozen? ⟨w.heap.size, oo, none⟩ = false := fun oo => (hy.frozen (by first | omega | (simp; done) | (simp; omega))).trans ((fz_hold hFres1_4) oo)
      have hBres2_5 : Bx w5 (w.heap.size + 1) [.int .i64 0, .int .i64 0, .slice none 0 0, .int .i64 0, .int .i64 0, .int .i64 0, .int .i64 0] := hy.bx (Bx.hold hBres2_4) (by first | omega | (simp; done) | (simp; omega))
      have hFres2_5 : ∀ oo, w5.frozen? ⟨w.heap.size + 1, oo, none⟩ = false := fun oo => (hy.frozen (by first | omega | (simp; done) | (simp; omega))).trans ((fz_hold hFres2_4) oo)
      have hBx_5 : Bx w5 (w1.heap.size) [.int .i64 b.pc, .int .i64 b.len, .slice A1 b.ops.length c1, .int .i64 b.fin, .int .i64 b.x, .int .i64 b.y, .int .i64 b.k] := hy.bx (Bx.hold hBx_4) (by first | omega | (simp; done) | (simp; omega))
      have hFx_5 : ∀ oo, w5.frozen? ⟨w1.heap.size, oo, none⟩ = false := fun oo => (hy.frozen (by first | omega | (simp; done) | (simp; omega))).trans ((fz_hold hFx_4) oo)
      clear hBres1_4 hFres1_4 hBres2_4 hFres2_4 hBx_4 hFx_4
      replace hb := GlO.turn hb (Turn.of_ext (Ext.trans Ext.auto hy) []) (by simp)
      clear hy
      have hTc := hTd
      clear hTd
      have hO := GlO.down (lo' := w0.heap.size) (GlO.of_own ho_ hf_) (by first | omega | (simp; omega))
      obtain ⟨A6, c6, rfl, -, -⟩ := ho_.sl.form
      clear ho_ hf_
      have hlb := blk_optAll b
      rw [blk_ops, blk_ops] at hlb
      refine Plan.chain_step rfl (fun K hK => ?_)
      go_simp
      refine (l21Bent_any rb base _ _ (Rdr.hold hR5) (by omega) (optAll b) _ (GlO.sl (GlO.turn hO (Turn.of_ext Ext.auto []) (by simp))) (ok_optAll hok) (by omega) (len_optAll (by have := (ok_len hbk); omega) (by have := (ok_len hbk); omega)).1 (len_optAll (by have := (ok_len hbk); omega) (by have := (ok_len hbk); omega)).2).mono ?_
      rintro e w6 ⟨⟨d, A5, c5, rfl, hQ, hokd, hld⟩, hR6, hy⟩
      have hTd : Turn [rb] w4 w6 := hTc.trans hy
      refine hK.out _ _ hTd ?_
      clear hK
      (try simp only [Act.put, List.setIfInBounds_toArray, List.set_cons_zero, List.set_cons_succ])
      have hs6 := hy.size
      try simp at hs6
      have hT6 : Turn [rb] w w6 := (Turn.hold hT5).trans hy
      have hBres1_6 : Bx w6 (w.heap.size) [.int .i64 0, .int .i64 0, .slice none 0 0, .int .i64 0, .int .i64 0, .int .i64 0, .int .i64 0] := hy.bx (Bx.hold hBres1_5) (by first | omega | (simp; done) | (simp; omega)) (by simp; omega)
      have hFres1_6 : ∀ oo, w6.frozen? ⟨w.heap.size, oo, none⟩ = false := fun oo => (hy.frozen (by first | omega | (simp; done) | (simp; omega)) (by simp; omega)).trans ((fz_hold hFres1_5) oo)
      have hBres2_6 : Bx w6 (w.heap.size + 1) [.int .i64 0, .int .i64 0, .slice none 0 0, .int .i64 0, .int .i64 0, .int .i64 0, .int .i64 0] := hy.bx (Bx.hold hBres2_5) (by first | omega | (simp; done) | (simp; omega)) (by simp; omega)
      have hFres2_6 : ∀ oo, w6.frozen? ⟨w.heap.size + 1, oo, none⟩ = false := fun oo => (hy.frozen (by first | omega | (simp; done) | (simp; omega)) (by simp; omega)).trans ((fz_hold hFres2_5) oo)
      have hBx_6 : Bx w6 (w1.heap.size) [.int .i64 b.pc, .int .i64 b.len, .slice A1 b.ops.length c1, .int .i64 b.fin, .int .i64 b.x, .int .i64 b.y, .int .i64 b.k] := hy.bx (Bx.hold hBx_5) (by first | omega | (simp; done) | (simp; omega)) (by simp; omega)
      have hFx_6 : ∀ oo, w6.frozen? ⟨w1.heap.size, oo, none⟩ = false := fun oo => (hy.frozen (by first | omega | (simp; done) | (simp; omega)) (by simp; omega)).trans ((fz_hold hFx_5) oo)
      clear hBres1_5 hFres1_5 hBres2_5 hFres2_5 hBx_5 hFx_5
      replace hb := GlO.turn (GlO.turn hb (Turn.of_ext Ext.auto []) (by simp)) hy (fun x hx => by simp at hx; omega)
      replace hO := GlO.turn (GlO.turn hO (Turn.of_ext Ext.auto []) (by simp)) hy (fun x hx => by simp at hx; omega)
      clear hy hTc
      have hTc := hTd
      clear hTd
      refine Plan.tail_step ?_
      simp only [List.drop_succ_cons, List.drop_zero]
      clear hSx
      try clear xx0 xx1 xx2 xx3 xx4 xx5 xx6 yx fx
      have yx : w1.heap.size < w6.heap.size := by omega
      have xx0 := hBx_6 0 _ rfl
      have xx1 := hBx_6 1 _ rfl
      have xx2 := hBx_6 2 _ rfl
      have xx3 := hBx_6 3 _ rfl
      have xx4 := hBx_6 4 _ rfl
      have xx5 := hBx_6 5 _ rfl
      have xx6 := hBx_6 6 _ rfl
      have fx := hFx_6
      have yres1 : w.heap.size < w6.heap.size := by omega
      have xres10 : w6.cell? ⟨w.heap.size, 0, none⟩ = some (.int .i64 0) := hBres1_6 0 _ rfl
      have xres11 : w6.cell? ⟨w.heap.size, 1, none⟩ = some (.int .i64 0) := hBres1_6 1 _ rfl
      have xres12 : w6.cell? ⟨w.heap.size, 2, none⟩ = some (.slice none 0 0) := hBres1_6 2 _ rfl
      have xres13 : w6.cell? ⟨w.heap.size, 3, none⟩ = some (.int .i64 0) := hBres1_6 3 _ rfl
      have xres14 : w6.cell? ⟨w.heap.size, 4, none⟩ = some (.int .i64 0) := hBres1_6 4 _ rfl
      have xres15 : w6.cell? ⟨w.heap.size, 5, none⟩ = some (.int .i64 0) := hBres1_6 5 _ rfl
      have xres16 : w6.cell? ⟨w.heap.size, 6, none⟩ = some (.int .i64 0) := hBres1_6 6 _ rfl
      have fres1 := hFres1_6
      have yres2 : w.heap.size + 1 < w6.heap.size := by omega
      have xres20 : w6.cell? ⟨w.heap.size + 1, 0, none⟩ = some (.int .i64 0) := hBres2_6 0 _ rfl
      have xres21 : w6.cell? ⟨w.heap.size + 1, 1, none⟩ = some (.int .i64 0) := hBres2_6 1 _ rfl
      have xres22 : w6.cell? ⟨w.heap.size + 1, 2, none⟩ = some (.slice none 0 0) := hBres2_6 2 _ rfl
      have xres23 : w6.cell? ⟨w.heap.size + 1, 3, none⟩ = some (.int .i64 0) := hBres2_6 3 _ rfl
      have xres24 : w6.cell? ⟨w.heap.size + 1, 4, none⟩ = some (.int .i64 0) := hBres2_6 4 _ rfl
      have xres25 : w6.cell? ⟨w.heap.size + 1, 5, none⟩ = some (.int .i64 0) := hBres2_6 5 _ rfl
      have xres26 : w6.cell? ⟨w.heap.size + 1, 6, none⟩ = some (.int .i64 0) := hBres2_6 6 _ rfl
      have fres2 := hFres2_6
      go_wp2
      refine bodyPost_ret (v := .tuple #[.agg #[.int .i64 b.pc, .int .i64 b.len, .slice A1 b.ops.length c1, .int .i64 b.fin, .int .i64 b.x, .int .i64 b.y, .int .i64 b.k], .agg #[.int .i64 d.pc, .int .i64 d.len, .slice A5 d.ops.length c5, .int .i64 d.fin, .int .i64 d.x, .int .i64 d.y, .int .i64 d.k]]) (by simp [results, Try.results34, go_sem, xres10, xres11, xres12, xres13, xres14, xres15, xres16, xres20, xres21, xres22, xres23, xres24, xres25, xres26]) rfl ⟨⟨b, d, A1, _, c1, _, rfl, ?_, ?_, hok, hokd, hl49, hld⟩, ?_, ?_⟩
      · exact GlO.down (lo := w0.heap.size) (GlO.turn (F := [w.heap.size, w.heap.size + 1]) hb (by repeat' (first | with_reducible exact Turn.refl _ _ | with_reducible refine Turn.set ?_ (.inl (by simp)) _ | with_reducible refine Turn.drew ?_)) (fun x hx => by simp at hx; omega)) (by omega)
      · exact GlO.down (lo := w0.heap.size) (GlO.turn (F := [w.heap.size, w.heap.size + 1]) (GlO.down (lo' := w0.heap.size) hQ (by first | omega | (simp; omega))) (by repeat' (first | with_reducible exact Turn.refl _ _ | with_reducible refine Turn.set ?_ (.inl (by simp)) _ | with_reducible refine Turn.drew ?_)) (fun x hx => by simp at hx; omega)) (by omega)
      · exact (Rdr.hold hR6).up (by omega)
      · exact Turn.hold hT6
    · 
      have yx : w1.heap.size < w4.heap.size := by omega
      have xx0 := hBx_4 0 _ rfl
      have xx1 := hBx_4 1 _ rfl
      have xx2 := hBx_4 2 _ rfl
      have xx3 := hBx_4 3 _ rfl
      have xx4 := hBx_4 4 _ rfl
      have xx5 := hBx_4 5 _ rfl
      have xx6 := hBx_4 6 _ rfl
      have fx := hFx_4
      have yres1 : w.heap.size < w4.heap.size := by omega
      have xres10 : w4.cell? ⟨w.heap.size, 0, none⟩ = some (.int .i64 0) := hBres1_4 0 _ rfl
      have xres11 : w4.cell? ⟨w.heap.size, 1, none⟩ = some (.int .i64 0) := hBres1_4 1 _ rfl
      have xres12 : w4.cell? ⟨w.heap.size, 2, none⟩ = some (.slice none 0 0) := hBres1_4 2 _ rfl
      have xres13 : w4.cell? ⟨w.heap.size, 3, none⟩ = some (.int .i64 0) := hBres1_4 3 _ rfl
      have xres14 : w4.cell? ⟨w.heap.size, 4, none⟩ = some (.int .i64 0) := hBres1_4 4 _ rfl
      have xres15 : w4.cell? ⟨w.heap.size, 5, none⟩ = some (.int .i64 0) := hBres1_4 5 _ rfl
      have xres16 : w4.cell? ⟨w.heap.size, 6, none⟩ = some (.int .i64 0) := hBres1_4 6 _ rfl
      have fres1 := hFres1_4
      have yres2 : w.heap.size + 1 < w4.heap.size := by omega
      have xres20 : w4.cell? ⟨w.heap.size + 1, 0, none⟩ = some (.int .i64 0) := hBres2_4 0 _ rfl
      have xres21 : w4.cell? ⟨w.heap.size + 1, 1, none⟩ = some (.int .i64 0) := hBres2_4 1 _ rfl
      have xres22 : w4.cell? ⟨w.heap.size + 1, 2, none⟩ = some (.slice none 0 0) := hBres2_4 2 _ rfl
      have xres23 : w4.cell? ⟨w.heap.size + 1, 3, none⟩ = some (.int .i64 0) := hBres2_4 3 _ rfl
      have xres24 : w4.cell? ⟨w.heap.size + 1, 4, none⟩ = some (.int .i64 0) := hBres2_4 4 _ rfl
      have xres25 : w4.cell? ⟨w.heap.size + 1, 5, none⟩ = some (.int .i64 0) := hBres2_4 5 _ rfl
      have xres26 : w4.cell? ⟨w.heap.size + 1, 6, none⟩ = some (.int .i64 0) := hBres2_4 6 _ rfl
      have fres2 := hFres2_4
      go_upto_region 16 with fail
      have hSx : ∀ w', Turn [w.heap.size, w.heap.size + 1] w4 w' → ∀ oo, w'.cell? ⟨w1.heap.size, oo, none⟩ = w4.cell? ⟨w1.heap.size, oo, none⟩ := fun w' hx oo => hx.cell (by omega) (by simp; omega)
      refine wp_region_plan (fun w' => Turn [w.heap.size, w.heap.size + 1] w4 w') 4 (.float 0 (.float 2 (.chain 1 (.chain 3 (.tail 4))))) (by kernel_rfl) (by kernel_rfl) (Turn.of_ext (Ext.refl _).drew _) ?_
      clear xres10 xres11 xres12 xres13 xres14 xres15 xres16 yres1
      clear fres1
      clear xres20 xres21 xres22 xres23 xres24 xres25 xres26 yres2
      clear fres2
      iterate 2 ((refine Plan.float_step (v := ?_) rfl (by rfl) (fun _ _ _ h => h) (fun w' hSw => ?_) ?_; rotate_left; · (go_simp; try with_reducible rfl)); (try simp only [Act.put, List.setIfInBounds_toArray, List.set_cons_zero, List.set_cons_succ]))
      refine Plan.chain_step rfl (fun K hK => ?_)
      go_simp
      refine (specOptAll_any b _ _ (GlO.sl (GlO.turn hb (Turn.of_ext Ext.auto []) (by simp))) hok).mono ?_
      rintro e w5 ⟨r_, F_, rfl, ho_, hf_, hy⟩
      have hTd : Turn [w.heap.size, w.heap.size + 1] w4 w5 := Turn.of_ext (Ext.trans Ext.auto hy) _
      refine hK.out _ _ hTd ?_
      clear hK
      (try simp only [Act.put, List.setIfInBounds_toArray, List.set_cons_zero, List.set_cons_succ])
      have hs5 := hy.size
      try simp at hs5
      have hT5 : Turn [rb] w w5 := (Turn.hold hT4).call hy
      have hR5 := (Rdr.hold hR4).ext hy
      have hBres1_5 : Bx w5 (w.heap.size) [.int .i64 0, .int .i64 0, .slice none 0 0, .int .i64 0, .int .i64 0, .int .i64 0, .int .i64 0] := hy.bx (Bx.hold hBres1_4) (by first | omega | (simp; done) | (simp; omega))
      have hFres1_5 : ∀ oo, w5.frozen? ⟨w.heap.size, oo, none⟩ = false := fun oo => (hy.frozen (by first | omega | (simp; done) | (simp; omega))).trans ((fz_hold hFres1_4) oo)
      have hBres2_5 : Bx w5 (w.heap.size + 1) [.int .i64 0, .int .i64 0, .slice none 0 0, .int .i64 0, .int .i64 0, .int .i64 0, .int .i64 0] := hy.bx (Bx.hold hBres2_4) (by first | omega | (simp; done) | (simp; omega))
      have hFres2_5 : ∀ oo, w5.frozen? ⟨w.heap.size + 1, oo, none⟩ = false := fun oo => (hy.frozen (by first | omega | (simp; done) | (simp; omega))).trans ((fz_hold hFres2_4) oo)
      have hBx_5 : Bx w5 (w1.heap.size) [.int .i64 b.pc, .int .i64 b.len, .slice A1 b.ops.length c1, .int .i64 b.fin, .int .i64 b.x, .int .i64 b.y, .int .i64 b.k] := hy.bx (Bx.hold hBx_4) (by first | omega | (simp; done) | (simp; omega))
      have hFx_5 : ∀ oo, w5.frozen? ⟨w1.heap.size, oo, none⟩ = false := fun oo => (hy.frozen (by first | omega | (simp; done) | (simp; omega))).trans ((fz_hold hFx_4) oo)
      clear hBres1_4 hFres1_4 hBres2_4 hFres2_4 hBx_4 hFx_4
      replace hb := GlO.turn hb (Turn.of_ext (Ext.trans Ext.auto hy) []) (by simp)
      clear hy
      have hO := GlO.of_own ho_ hf_
      obtain ⟨A6, c6, rfl, -, -⟩ := ho_.sl.form
      clear ho_ hf_
      have hlb := blk_optAll b
      rw [blk_ops, blk_ops] at hlb
      try clear xx0 xx1 xx2 xx3 xx4 xx5 xx6 yx fx
      have yx : w1.heap.size < w5.heap.size := by omega
      have xx0 := hBx_5 0 _ rfl
      have xx1 := hBx_5 1 _ rfl
      have xx2 := hBx_5 2 _ rfl
      have xx3 := hBx_5 3 _ rfl
      have xx4 := hBx_5 4 _ rfl
      have xx5 := hBx_5 5 _ rfl
      have xx6 := hBx_5 6 _ rfl
      have fx := hFx_5
      have yres1 : w.heap.size < w5.heap.size := by omega
      have xres10 : w5.cell? ⟨w.heap.size, 0, none⟩ = some (.int .i64 0) := hBres1_5 0 _ rfl
      have xres11 : w5.cell? ⟨w.heap.size, 1, none⟩ = some (.int .i64 0) := hBres1_5 1 _ rfl
      have xres12 : w5.cell? ⟨w.heap.size, 2, none⟩ = some (.slice none 0 0) := hBres1_5 2 _ rfl
      have xres13 : w5.cell? ⟨w.heap.size, 3, none⟩ = some (.int .i64 0) := hBres1_5 3 _ rfl
      have xres14 : w5.cell? ⟨w.heap.size, 4, none⟩ = some (.int .i64 0) := hBres1_5 4 _ rfl
      have xres15 : w5.cell? ⟨w.heap.size, 5, none⟩ = some (.int .i64 0) := hBres1_5 5 _ rfl
      have xres16 : w5.cell? ⟨w.heap.size, 6, none⟩ = some (.int .i64 0) := hBres1_5 6 _ rfl
      have fres1 := hFres1_5
      have yres2 : w.heap.size + 1 < w5.heap.size := by omega
      have xres20 : w5.cell? ⟨w.heap.size + 1, 0, none⟩ = some (.int .i64 0) := hBres2_5 0 _ rfl
      have xres21 : w5.cell? ⟨w.heap.size + 1, 1, none⟩ = some (.int .i64 0) := hBres2_5 1 _ rfl
      have xres22 : w5.cell? ⟨w.heap.size + 1, 2, none⟩ = some (.slice none 0 0) := hBres2_5 2 _ rfl
      have xres23 : w5.cell? ⟨w.heap.size + 1, 3, none⟩ = some (.int .i64 0) := hBres2_5 3 _ rfl
      have xres24 : w5.cell? ⟨w.heap.size + 1, 4, none⟩ = some (.int .i64 0) := hBres2_5 4 _ rfl
      have xres25 : w5.cell? ⟨w.heap.size + 1, 5, none⟩ = some (.int .i64 0) := hBres2_5 5 _ rfl
      have xres26 : w5.cell? ⟨w.heap.size + 1, 6, none⟩ = some (.int .i64 0) := hBres2_5 6 _ rfl
      have fres2 := hFres2_5
      refine Plan.chain_step rfl (fun K hK => ?_)
      go_simp
      refine hK.out _ _ (hTd.trans (show Turn [w.heap.size, w.heap.size + 1] w5 _ from (by repeat' (first | with_reducible exact Turn.refl _ _ | with_reducible refine Turn.set ?_ (.inl (by simp)) _ | with_reducible refine Turn.drew ?_)))) ?_
      clear hK
      (try simp only [Act.put, List.setIfInBounds_toArray, List.set_cons_zero, List.set_cons_succ])
      refine Plan.tail_step ?_
      simp only [List.drop_succ_cons, List.drop_zero]
      clear hSx
      go_wp2
      refine bodyPost_ret (v := .tuple #[.agg #[.int .i64 ((optAll b).pc), .int .i64 ((optAll b).len), .slice A6 (optAll b).ops.length c6, .int .i64 ((optAll b).fin), .int .i64 ((optAll b).x), .int .i64 ((optAll b).y), .int .i64 ((optAll b).k)], .agg #[.int .i64 b.pc, .int .i64 b.len, .slice A1 b.ops.length c1, .int .i64 b.fin, .int .i64 b.x, .int .i64 b.y, .int .i64 b.k]]) (by simp [results, Try.results34, go_sem, xres10, xres11, xres12, xres13, xres14, xres15, xres16, xres20, xres21, xres22, xres23, xres24, xres25, xres26]) rfl ⟨⟨optAll b, b, A6, A1, c6, c1, rfl, ?_, ?_, ok_optAll hok, hok, by omega, hl49⟩, ?_, ?_⟩
      · exact GlO.down (lo := w0.heap.size) (GlO.turn (F := [w.heap.size, w.heap.size + 1]) (GlO.down (lo := w4.heap.size) hO (by omega)) (by repeat' (first | with_reducible exact Turn.refl _ _ | with_reducible refine Turn.set ?_ (.inl (by simp)) _ | with_reducible refine Turn.drew ?_)) (fun x hx => by simp at hx; omega)) (by omega)
      · exact GlO.down (lo := w0.heap.size) (GlO.turn (F := [w.heap.size, w.heap.size + 1]) hb (by repeat' (first | with_reducible exact Turn.refl _ _ | with_reducible refine Turn.set ?_ (.inl (by simp)) _ | with_reducible refine Turn.drew ?_)) (fun x hx => by simp at hx; omega)) (by omega)
      · exact (Rdr.hold hR5).up (by omega)
      · exact Turn.hold hT5
    · 
      have yx : w1.heap.size < w4.heap.size := by omega
      have xx0 := hBx_4 0 _ rfl
      have xx1 := hBx_4 1 _ rfl
      have xx2 := hBx_4 2 _ rfl
      have xx3 := hBx_4 3 _ rfl
      have xx4 := hBx_4 4 _ rfl
      have xx5 := hBx_4 5 _ rfl
      have xx6 := hBx_4 6 _ rfl
      have fx := hFx_4
      have yres1 : w.heap.size < w4.heap.size := by omega
      have xres10 : w4.cell? ⟨w.heap.size, 0, none⟩ = some (.int .i64 0) := hBres1_4 0 _ rfl
      have xres11 : w4.cell? ⟨w.heap.size, 1, none⟩ = some (.int .i64 0) := hBres1_4 1 _ rfl
      have xres12 : w4.cell? ⟨w.heap.size, 2, none⟩ = some (.slice none 0 0) := hBres1_4 2 _ rfl
      have xres13 : w4.cell? ⟨w.heap.size, 3, none⟩ = some (.int .i64 0) := hBres1_4 3 _ rfl
      have xres14 : w4.cell? ⟨w.heap.size, 4, none⟩ = some (.int .i64 0) := hBres1_4 4 _ rfl
      have xres15 : w4.cell? ⟨w.heap.size, 5, none⟩ = some (.int .i64 0) := hBres1_4 5 _ rfl
      have xres16 : w4.cell? ⟨w.heap.size, 6, none⟩ = some (.int .i64 0) := hBres1_4 6 _ rfl
      have fres1 := hFres1_4
      have yres2 : w.heap.size + 1 < w4.heap.size := by omega
      have xres20 : w4.cell? ⟨w.heap.size + 1, 0, none⟩ = some (.int .i64 0) := hBres2_4 0 _ rfl
      have xres21 : w4.cell? ⟨w.heap.size + 1, 1, none⟩ = some (.int .i64 0) := hBres2_4 1 _ rfl
      have xres22 : w4.cell? ⟨w.heap.size + 1, 2, none⟩ = some (.slice none 0 0) := hBres2_4 2 _ rfl
      have xres23 : w4.cell? ⟨w.heap.size + 1, 3, none⟩ = some (.int .i64 0) := hBres2_4 3 _ rfl
      have xres24 : w4.cell? ⟨w.heap.size + 1, 4, none⟩ = some (.int .i64 0) := hBres2_4 4 _ rfl
      have xres25 : w4.cell? ⟨w.heap.size + 1, 5, none⟩ = some (.int .i64 0) := hBres2_4 5 _ rfl
      have xres26 : w4.cell? ⟨w.heap.size + 1, 6, none⟩ = some (.int .i64 0) := hBres2_4 6 _ rfl
      have fres2 := hFres2_4
      go_upto_region 18 with fail
      have hSx : ∀ w', Turn [rb] w4 w' → ∀ oo, w'.cell? ⟨w1.heap.size, oo, none⟩ = w4.cell? ⟨w1.heap.size, oo, none⟩ := fun w' hx oo => hx.cell (by omega) (by simp; omega)
      refine wp_region_plan (fun w' => Turn [rb] w4 w') 4 (.float 0 (.float 1 (.float 2 (.chain 3 (.tail 4))))) (by kernel_rfl) (by kernel_rfl) (Turn.of_ext (Ext.refl _).drew _) ?_
      clear xres10 xres11 xres12 xres13 xres14 xres15 xres16 yres1
      clear fres1
      clear xres20 xres21 xres22 xres23 xres24 xres25 xres26 yres2
      clear fres2
      iterate 3 ((refine Plan.float_step (v := ?_) rfl (by rfl) (fun _ _ _ h => h) (fun w' hSw => ?_) ?_; rotate_left; · (go_simp; try with_reducible rfl)); (try simp only [Act.put, List.setIfInBounds_toArray, List.set_cons_zero, List.set_cons_succ]))
      refine Plan.chain_step rfl (fun K hK => ?_)
      go_simp
      refine (l21BlockOr_any rb base _ _ (Rdr.hold hR4) (by omega) n hn0 hn).mono ?_
      rintro e w5 ⟨⟨d, A5, c5, rfl, hQ, hokd, hld⟩, hR5, hy⟩
      have hTd : Turn [rb] w4 w5 := Turn.pre Ext.auto hy
      refine hK.out _ _ hTd ?_
      clear hK
      (try simp only [Act.put, List.setIfInBounds_toArray, List.set_cons_zero, List.set_cons_succ])
      have hs5 := hy.size
      try simp at hs5
      have hT5 : Turn [rb] w w5 := (Turn.hold hT4).trans hy
      have hBres1_5 : Bx w5 (w.heap.size) [.int .i64 0, .int .i64 0, .slice none 0 0, .int .i64 0, .int .i64 0, .int .i64 0, .int .i64 0] := hy.bx (Bx.hold hBres1_4) (by first | omega | (simp; done) | (simp; omega)) (by simp; omega)
      have hFres1_5 : ∀ oo, w5.frozen? ⟨w.heap.size, oo, none⟩ = false := fun oo => (hy.frozen (by first | omega | (simp; done) | (simp; omega)) (by simp; omega)).trans ((fz_hold hFres1_4) oo)
      have hBres2_5 : Bx w5 (w.heap.size + 1) [.int .i64 0, .int .i64 0, .slice none 0 0, .int .i64 0, .int .i64 0, .int .i64 0, .int .i64 0] := hy.bx (Bx.hold hBres2_4) (by first | omega | (simp; done) | (simp; omega)) (by simp; omega)
      have hFres2_5 : ∀ oo, w5.frozen? ⟨w.heap.size + 1, oo, none⟩ = false := fun oo => (hy.frozen (by first | omega | (simp; done) | (simp; omega)) (by simp; omega)).trans ((fz_hold hFres2_4) oo)
      have hBx_5 : Bx w5 (w1.heap.size) [.int .i64 b.pc, .int .i64 b.len, .slice A1 b.ops.length c1, .int .i64 b.fin, .int .i64 b.x, .int .i64 b.y, .int .i64 b.k] := hy.bx (Bx.hold hBx_4) (by first | omega | (simp; done) | (simp; omega)) (by simp; omega)
      have hFx_5 : ∀ oo, w5.frozen? ⟨w1.heap.size, oo, none⟩ = false := fun oo => (hy.frozen (by first | omega | (simp; done) | (simp; omega)) (by simp; omega)).trans ((fz_hold hFx_4) oo)
      clear hBres1_4 hFres1_4 hBres2_4 hFres2_4 hBx_4 hFx_4
      replace hb := GlO.turn (GlO.turn hb (Turn.of_ext Ext.auto []) (by simp)) hy (fun x hx => by simp at hx; omega)
      clear hy
      have hTc := hTd
      clear hTd
      refine Plan.tail_step ?_
      simp only [List.drop_succ_cons, List.drop_zero]
      clear hSx
      try clear xx0 xx1 xx2 xx3 xx4 xx5 xx6 yx fx
      have yx : w1.heap.size < w5.heap.size := by omega
      have xx0 := hBx_5 0 _ rfl
      have xx1 := hBx_5 1 _ rfl
      have xx2 := hBx_5 2 _ rfl
      have xx3 := hBx_5 3 _ rfl
      have xx4 := hBx_5 4 _ rfl
      have xx5 := hBx_5 5 _ rfl
      have xx6 := hBx_5 6 _ rfl
      have fx := hFx_5
      have yres1 : w.heap.size < w5.heap.size := by omega
      have xres10 : w5.cell? ⟨w.heap.size, 0, none⟩ = some (.int .i64 0) := hBres1_5 0 _ rfl
      have xres11 : w5.cell? ⟨w.heap.size, 1, none⟩ = some (.int .i64 0) := hBres1_5 1 _ rfl
      have xres12 : w5.cell? ⟨w.heap.size, 2, none⟩ = some (.slice none 0 0) := hBres1_5 2 _ rfl
      have xres13 : w5.cell? ⟨w.heap.size, 3, none⟩ = some (.int .i64 0) := hBres1_5 3 _ rfl
      have xres14 : w5.cell? ⟨w.heap.size, 4, none⟩ = some (.int .i64 0) := hBres1_5 4 _ rfl
      have xres15 : w5.cell? ⟨w.heap.size, 5, none⟩ = some (.int .i64 0) := hBres1_5 5 _ rfl
      have xres16 : w5.cell? ⟨w.heap.size, 6, none⟩ = some (.int .i64 0) := hBres1_5 6 _ rfl
      have fres1 := hFres1_5
      have yres2 : w.heap.size + 1 < w5.heap.size := by omega
      have xres20 : w5.cell? ⟨w.heap.size + 1, 0, none⟩ = some (.int .i64 0) := hBres2_5 0 _ rfl
      have xres21 : w5.cell? ⟨w.heap.size + 1, 1, none⟩ = some (.int .i64 0) := hBres2_5 1 _ rfl
      have xres22 : w5.cell? ⟨w.heap.size + 1, 2, none⟩ = some (.slice none 0 0) := hBres2_5 2 _ rfl
      have xres23 : w5.cell? ⟨w.heap.size + 1, 3, none⟩ = some (.int .i64 0) := hBres2_5 3 _ rfl
      have xres24 : w5.cell? ⟨w.heap.size + 1, 4, none⟩ = some (.int .i64 0) := hBres2_5 4 _ rfl
      have xres25 : w5.cell? ⟨w.heap.size + 1, 5, none⟩ = some (.int .i64 0) := hBres2_5 5 _ rfl
      have xres26 : w5.cell? ⟨w.heap.size + 1, 6, none⟩ = some (.int .i64 0) := hBres2_5 6 _ rfl
      have fres2 := hFres2_5
      go_wp2
      refine bodyPost_ret (v := .tuple #[.agg #[.int .i64 b.pc, .int .i64 b.len, .slice A1 b.ops.length c1, .int .i64 b.fin, .int .i64 b.x, .int .i64 b.y, .int .i64 b.k], .agg #[.int .i64 d.pc, .int .i64 d.len, .slice A5 d.ops.length c5, .int .i64 d.fin, .int .i64 d.x, .int .i64 d.y, .int .i64 d.k]]) (by simp [results, Try.results34, go_sem, xres10, xres11, xres12, xres13, xres14, xres15, xres16, xres20, xres21, xres22, xres23, xres24, xres25, xres26]) rfl ⟨⟨b, d, A1, _, c1, _, rfl, ?_, ?_, hok, hokd, hl49, hld⟩, ?_, ?_⟩
      · exact GlO.down (lo := w0.heap.size) (GlO.turn (F := [w.heap.size, w.heap.size + 1]) hb (by repeat' (first | with_reducible exact Turn.refl _ _ | with_reducible refine Turn.set ?_ (.inl (by simp)) _ | with_reducible refine Turn.drew ?_)) (fun x hx => by simp at hx; omega)) (by omega)
      · exact GlO.down (lo := w0.heap.size) (GlO.turn (F := [w.heap.size, w.heap.size + 1]) (GlO.down (lo' := w0.heap.size) hQ (by first | omega | (simp; omega))) (by repeat' (first | with_reducible exact Turn.refl _ _ | with_reducible refine Turn.set ?_ (.inl (by simp)) _ | with_reducible refine Turn.drew ?_)) (fun x hx => by simp at hx; omega)) (by omega)
      · exact (Rdr.hold hR5).up (by omega)
      · exact Turn.hold hT5
    · 
      have yx : w1.heap.size < w4.heap.size := by omega
      have xx0 := hBx_4 0 _ rfl
      have xx1 := hBx_4 1 _ rfl
      have xx2 := hBx_4 2 _ rfl
      have xx3 := hBx_4 3 _ rfl
      have xx4 := hBx_4 4 _ rfl
      have xx5 := hBx_4 5 _ rfl
      have xx6 := hBx_4 6 _ rfl
      have fx := hFx_4
      have yres1 : w.heap.size < w4.heap.size := by omega
      have xres10 : w4.cell? ⟨w.heap.size, 0, none⟩ = some (.int .i64 0) := hBres1_4 0 _ rfl
      have xres11 : w4.cell? ⟨w.heap.size, 1, none⟩ = some (.int .i64 0) := hBres1_4 1 _ rfl
      have xres12 : w4.cell? ⟨w.heap.size, 2, none⟩ = some (.slice none 0 0) := hBres1_4 2 _ rfl
      have xres13 : w4.cell? ⟨w.heap.size, 3, none⟩ = some (.int .i64 0) := hBres1_4 3 _ rfl
      have xres14 : w4.cell? ⟨w.heap.size, 4, none⟩ = some (.int .i64 0) := hBres1_4 4 _ rfl
      have xres15 : w4.cell? ⟨w.heap.size, 5, none⟩ = some (.int .i64 0) := hBres1_4 5 _ rfl
      have xres16 : w4.cell? ⟨w.heap.size, 6, none⟩ = some (.int .i64 0) := hBres1_4 6 _ rfl
      have fres1 := hFres1_4
      have yres2 : w.heap.size + 1 < w4.heap.size := by omega
      have xres20 : w4.cell? ⟨w.heap.size + 1, 0, none⟩ = some (.int .i64 0) := hBres2_4 0 _ rfl
      have xres21 : w4.cell? ⟨w.heap.size + 1, 1, none⟩ = some (.int .i64 0) := hBres2_4 1 _ rfl
      have xres22 : w4.cell? ⟨w.heap.size + 1, 2, none⟩ = some (.slice none 0 0) := hBres2_4 2 _ rfl
      have xres23 : w4.cell? ⟨w.heap.size + 1, 3, none⟩ = some (.int .i64 0) := hBres2_4 3 _ rfl
      have xres24 : w4.cell? ⟨w.heap.size + 1, 4, none⟩ = some (.int .i64 0) := hBres2_4 4 _ rfl
      have xres25 : w4.cell? ⟨w.heap.size + 1, 5, none⟩ = some (.int .i64 0) := hBres2_4 5 _ rfl
      have xres26 : w4.cell? ⟨w.heap.size + 1, 6, none⟩ = some (.int .i64 0) := hBres2_4 6 _ rfl
      have fres2 := hFres2_4
      go_upto_region 20 with fail
      have hSx : ∀ w', Turn [rb] w4 w' → ∀ oo, w'.cell? ⟨w1.heap.size, oo, none⟩ = w4.cell? ⟨w1.heap.size, oo, none⟩ := fun w' hx oo => hx.cell (by omega) (by simp; omega)
      refine wp_region_plan (fun w' => Turn [rb] w4 w') 3 (.float 0 (.float 1 (.chain 2 (.tail 3)))) (by kernel_rfl) (by kernel_rfl) (Turn.of_ext (Ext.refl _).drew _) ?_
      clear xres10 xres11 xres12 xres13 xres14 xres15 xres16 yres1
      clear fres1
      clear xres20 xres21 xres22 xres23 xres24 xres25 xres26 yres2
      clear fres2
      iterate 2 ((refine Plan.float_step (v := ?_) rfl (by rfl) (fun _ _ _ h => h) (fun w' hSw => ?_) ?_; rotate_left; · (go_simp; try with_reducible rfl)); (try simp only [Act.put, List.setIfInBounds_toArray, List.set_cons_zero, List.set_cons_succ]))
      refine Plan.chain_step rfl (fun K hK => ?_)
      go_simp
      refine (specOptCopy_any b _ _ (GlO.sl (GlO.turn hb (Turn.of_ext Ext.auto []) (by simp))) hok).mono ?_
      rintro e w5 ⟨r_, F_, rfl, ho_, hf_, hy⟩
      have hTd : Turn [rb] w4 w5 := Turn.of_ext (Ext.trans Ext.auto hy) _
      refine hK.out _ _ hTd ?_
      clear hK
      (try simp only [Act.put, List.setIfInBounds_toArray, List.set_cons_zero, List.set_cons_succ])
      have hs5 := hy.size
      try simp at hs5
      have hT5 : Turn [rb] w w5 := (Turn.hold hT4).call hy
      have hR5 := (Rdr.hold hR4).ext hy
      have hBres1_5 : Bx w5 (w.heap.size) [.int .i64 0, .int .i64 0, .slice none 0 0, .int .i64 0, .int .i64 0, .int .i64 0, .int .i64 0] := hy.bx (Bx.hold hBres1_4) (by first | omega | (simp; done) | (simp; omega))
      have hFres1_5 : ∀ oo, w5.frozen? ⟨w.heap.size, oo, none⟩ = false := fun oo => (hy.frozen (by first | omega | (simp; done) | (simp; omega))).trans ((fz_hold hFres1_4) oo)
      have hBres2_5 : Bx w5 (w.heap.size + 1) [.int .i64 0, .int .i64 0, .slice none 0 0, .int .i64 0, .int .i64 0, .int .i64 0, .int .i64 0] := hy.bx (Bx.hold hBres2_4) (by first | omega | (simp; done) | (simp; omega))
      have hFres2_5 : ∀ oo, w5.frozen? ⟨w.heap.size + 1, oo, none⟩ = false := fun oo => (hy.frozen (by first | omega | (simp; done) | (simp; omega))).trans ((fz_hold hFres2_4) oo)
      have hBx_5 : Bx w5 (w1.heap.size) [.int .i64 b.pc, .int .i64 b.len, .slice A1 b.ops.length c1, .int .i64 b.fin, .int .i64 b.x, .int .i64 b.y, .int .i64 b.k] := hy.bx (Bx.hold hBx_4) (by first | omega | (simp; done) | (simp; omega))
      have hFx_5 : ∀ oo, w5.frozen? ⟨w1.heap.size, oo, none⟩ = false := fun oo => (hy.frozen (by first | omega | (simp; done) | (simp; omega))).trans ((fz_hold hFx_4) oo)
      clear hBres1_4 hFres1_4 hBres2_4 hFres2_4 hBx_4 hFx_4
      replace hb := GlO.turn hb (Turn.of_ext (Ext.trans Ext.auto hy) []) (by simp)
      clear hy
      have hTc := hTd
      clear hTd
      have hO := GlO.down (lo' := w0.heap.size) (GlO.of_own ho_ hf_) (by first | omega | (simp; omega))
      obtain ⟨A6, c6, rfl, -, -⟩ := ho_.sl.form
      clear ho_ hf_
      have hlb := blk_optCopy b
      rw [blk_ops, blk_ops] at hlb
      refine Plan.tail_step ?_
      simp only [List.drop_succ_cons, List.drop_zero]
      clear hSx
      try clear xx0 xx1 xx2 xx3 xx4 xx5 xx6 yx fx
      have yx : w1.heap.size < w5.heap.size := by omega
      have xx0 := hBx_5 0 _ rfl
      have xx1 := hBx_5 1 _ rfl
      have xx2 := hBx_5 2 _ rfl
      have xx3 := hBx_5 3 _ rfl
      have xx4 := hBx_5 4 _ rfl
      have xx5 := hBx_5 5 _ rfl
      have xx6 := hBx_5 6 _ rfl
      have fx := hFx_5
      have yres1 : w.heap.size < w5.heap.size := by omega
      have xres10 : w5.cell? ⟨w.heap.size, 0, none⟩ = some (.int .i64 0) := hBres1_5 0 _ rfl
      have xres11 : w5.cell? ⟨w.heap.size, 1, none⟩ = some (.int .i64 0) := hBres1_5 1 _ rfl
      have xres12 : w5.cell? ⟨w.heap.size, 2, none⟩ = some (.slice none 0 0) := hBres1_5 2 _ rfl
      have xres13 : w5.cell? ⟨w.heap.size, 3, none⟩ = some (.int .i64 0) := hBres1_5 3 _ rfl
      have xres14 : w5.cell? ⟨w.heap.size, 4, none⟩ = some (.int .i64 0) := hBres1_5 4 _ rfl
      have xres15 : w5.cell? ⟨w.heap.size, 5, none⟩ = some (.int .i64 0) := hBres1_5 5 _ rfl
      have xres16 : w5.cell? ⟨w.heap.size, 6, none⟩ = some (.int .i64 0) := hBres1_5 6 _ rfl
      have fres1 := hFres1_5
      have yres2 : w.heap.size + 1 < w5.heap.size := by omega
      have xres20 : w5.cell? ⟨w.heap.size + 1, 0, none⟩ = some (.int .i64 0) := hBres2_5 0 _ rfl
      have xres21 : w5.cell? ⟨w.heap.size + 1, 1, none⟩ = some (.int .i64 0) := hBres2_5 1 _ rfl
      have xres22 : w5.cell? ⟨w.heap.size + 1, 2, none⟩ = some (.slice none 0 0) := hBres2_5 2 _ rfl
      have xres23 : w5.cell? ⟨w.heap.size + 1, 3, none⟩ = some (.int .i64 0) := hBres2_5 3 _ rfl
      have xres24 : w5.cell? ⟨w.heap.size + 1, 4, none⟩ = some (.int .i64 0) := hBres2_5 4 _ rfl
      have xres25 : w5.cell? ⟨w.heap.size + 1, 5, none⟩ = some (.int .i64 0) := hBres2_5 5 _ rfl
      have xres26 : w5.cell? ⟨w.heap.size + 1, 6, none⟩ = some (.int .i64 0) := hBres2_5 6 _ rfl
      have fres2 := hFres2_5
      go_wp2
      refine bodyPost_ret (v := .tuple #[.agg #[.int .i64 b.pc, .int .i64 b.len, .slice A1 b.ops.length c1, .int .i64 b.fin, .int .i64 b.x, .int .i64 b.y, .int .i64 b.k], .agg #[.int .i64 ((optCopy b).pc), .int .i64 ((optCopy b).len), .slice A6 (optCopy b).ops.length c6, .int .i64 ((optCopy b).fin), .int .i64 ((optCopy b).x), .int .i64 ((optCopy b).y), .int .i64 ((optCopy b).k)]]) (by simp [results, Try.results34, go_sem, xres10, xres11, xres12, xres13, xres14, xres15, xres16, xres20, xres21, xres22, xres23, xres24, xres25, xres26]) rfl ⟨⟨b, (optCopy b), A1, _, c1, _, rfl, ?_, ?_, hok, (ok_optCopy hok), hl49, (by omega)⟩, ?_, ?_⟩
      · exact GlO.down (lo := w0.heap.size) (GlO.turn (F := [w.heap.size, w.heap.size + 1]) hb (by repeat' (first | with_reducible exact Turn.refl _ _ | with_reducible refine Turn.set ?_ (.inl (by simp)) _ | with_reducible refine Turn.drew ?_)) (fun x hx => by simp at hx; omega)) (by omega)
      · exact GlO.down (lo := w0.heap.size) (GlO.turn (F := [w.heap.size, w.heap.size + 1]) (GlO.down (lo' := w0.heap.size) hO (by first | omega | (simp; omega))) (by repeat' (first | with_reducible exact Turn.refl _ _ | with_reducible refine Turn.set ?_ (.inl (by simp)) _ | with_reducible refine Turn.drew ?_)) (fun x hx => by simp at hx; omega)) (by omega)
      · exact (Rdr.hold hR5).up (by omega)
      · exact Turn.hold hT5
    · 
      have yx : w1.heap.size < w4.heap.size := by omega
      have xx0 := hBx_4 0 _ rfl
      have xx1 := hBx_4 1 _ rfl
      have xx2 := hBx_4 2 _ rfl
      have xx3 := hBx_4 3 _ rfl
      have xx4 := hBx_4 4 _ rfl
      have xx5 := hBx_4 5 _ rfl
      have xx6 := hBx_4 6 _ rfl
      have fx := hFx_4
      have yres1 : w.heap.size < w4.heap.size := by omega
      have xres10 : w4.cell? ⟨w.heap.size, 0, none⟩ = some (.int .i64 0) := hBres1_4 0 _ rfl
      have xres11 : w4.cell? ⟨w.heap.size, 1, none⟩ = some (.int .i64 0) := hBres1_4 1 _ rfl
      have xres12 : w4.cell? ⟨w.heap.size, 2, none⟩ = some (.slice none 0 0) := hBres1_4 2 _ rfl
      have xres13 : w4.cell? ⟨w.heap.size, 3, none⟩ = some (.int .i64 0) := hBres1_4 3 _ rfl
      have xres14 : w4.cell? ⟨w.heap.size, 4, none⟩ = some (.int .i64 0) := hBres1_4 4 _ rfl
      have xres15 : w4.cell? ⟨w.heap.size, 5, none⟩ = some (.int .i64 0) := hBres1_4 5 _ rfl
      have xres16 : w4.cell? ⟨w.heap.size, 6, none⟩ = some (.int .i64 0) := hBres1_4 6 _ rfl
      have fres1 := hFres1_4
      have yres2 : w.heap.size + 1 < w4.heap.size := by omega
      have xres20 : w4.cell? ⟨w.heap.size + 1, 0, none⟩ = some (.int .i64 0) := hBres2_4 0 _ rfl
      have xres21 : w4.cell? ⟨w.heap.size + 1, 1, none⟩ = some (.int .i64 0) := hBres2_4 1 _ rfl
      have xres22 : w4.cell? ⟨w.heap.size + 1, 2, none⟩ = some (.slice none 0 0) := hBres2_4 2 _ rfl
      have xres23 : w4.cell? ⟨w.heap.size + 1, 3, none⟩ = some (.int .i64 0) := hBres2_4 3 _ rfl
      have xres24 : w4.cell? ⟨w.heap.size + 1, 4, none⟩ = some (.int .i64 0) := hBres2_4 4 _ rfl
      have xres25 : w4.cell? ⟨w.heap.size + 1, 5, none⟩ = some (.int .i64 0) := hBres2_4 5 _ rfl
      have xres26 : w4.cell? ⟨w.heap.size + 1, 6, none⟩ = some (.int .i64 0) := hBres2_4 6 _ rfl
      have fres2 := hFres2_4
      go_upto_region 21 with fail
      have hSx : ∀ w', Turn [w.heap.size, w.heap.size + 1] w4 w' → ∀ oo, w'.cell? ⟨w1.heap.size, oo, none⟩ = w4.cell? ⟨w1.heap.size, oo, none⟩ := fun w' hx oo => hx.cell (by omega) (by simp; omega)
      refine wp_region_plan (fun w' => Turn [w.heap.size, w.heap.size + 1] w4 w') 3 (.float 0 (.float 1 (.chain 2 (.tail 3)))) (by kernel_rfl) (by kernel_rfl) (Turn.of_ext (Ext.refl _).drew _) ?_
      iterate 2 ((refine Plan.float_step (v := ?_) rfl (by rfl) (fun _ _ _ h => h) (fun w' hSw => ?_) ?_; rotate_left; · (go_simp; try with_reducible rfl)); (try simp only [Act.put, List.setIfInBounds_toArray, List.set_cons_zero, List.set_cons_succ]))
      refine Plan.chain_step rfl (fun K hK => ?_)
      go_simp
      refine hK.out _ _ (by repeat' (first | with_reducible exact Turn.refl _ _ | with_reducible refine Turn.set ?_ (.inl (by simp)) _ | with_reducible refine Turn.drew ?_)) ?_
      clear hK
      (try simp only [Act.put, List.setIfInBounds_toArray, List.set_cons_zero, List.set_cons_succ])
      refine Plan.tail_step ?_
      simp only [List.drop_succ_cons, List.drop_zero]
      clear hSx
      go_wp2
      refine bodyPost_ret (v := .tuple #[.agg #[.int .i64 b.pc, .int .i64 b.len, .slice A1 b.ops.length c1, .int .i64 b.fin, .int .i64 b.x, .int .i64 b.y, .int .i64 b.k], .agg #[.int .i64 b.pc, .int .i64 b.len, .slice A1 b.ops.length c1, .int .i64 b.fin, .int .i64 b.x, .int .i64 b.y, .int .i64 b.k]]) (by simp [results, Try.results34, go_sem, xres10, xres11, xres12, xres13, xres14, xres15, xres16, xres20, xres21, xres22, xres23, xres24, xres25, xres26]) rfl ⟨⟨b, b, A1, _, c1, _, rfl, ?_, ?_, hok, hok, hl49, hl49⟩, ?_, ?_⟩
      · exact GlO.down (lo := w0.heap.size) (GlO.turn (F := [w.heap.size, w.heap.size + 1]) hb (by repeat' (first | with_reducible exact Turn.refl _ _ | with_reducible refine Turn.set ?_ (.inl (by simp)) _ | with_reducible refine Turn.drew ?_)) (fun x hx => by simp at hx; omega)) (by omega)
      · exact GlO.down (lo := w0.heap.size) (GlO.turn (F := [w.heap.size, w.heap.size + 1]) hb (by repeat' (first | with_reducible exact Turn.refl _ _ | with_reducible refine Turn.set ?_ (.inl (by simp)) _ | with_reducible refine Turn.drew ?_)) (fun x hx => by simp at hx; omega)) (by omega)
      · exact (Rdr.hold hR4).up (by omega)
      · exact Turn.hold hT4

end Go.Proofs.Yteaacelfnkiboaa
