/-
  DrawSm
-/
import Derived.Test.YteaacelfnkiboaaYDrawPr
import Derived.Deep.DeepCutAuto
namespace Go.Proofs.Yteaacelfnkiboaa
open Go.RowKit

set_option linter.unusedVariables false
set_option linter.unusedSimpArgs false
set_option maxRecDepth 100000

set_option maxHeartbeats 4000000 in
theorem drawIrSame_any (code : List UInt8) (vcode : Value) (w : World) (hcode : Sl w (Old w) vcode code)  :
    Calls Try.prog 7 #[vcode] w fun e w' => (∃ (b c : IrBlock) (A1 A2 : Option Addr) (c1 c2 : Nat), e = .returned (.tuple #[.agg #[.int .i64 b.pc, .int .i64 b.len, .slice A1 b.ops.length c1, .int .i64 b.fin, .int .i64 b.x, .int .i64 b.y, .int .i64 b.k], .agg #[.int .i64 c.pc, .int .i64 c.len, .slice A2 c.ops.length c2, .int .i64 c.fin, .int .i64 c.x, .int .i64 c.y, .int .i64 c.k]]) ∧ Sl w' (Old w') (.slice A1 b.ops.length c1) b.ops ∧ Sl w' (Old w') (.slice A2 c.ops.length c2) c.ops ∧ b.Ok ∧ c.Ok) ∧ Ext w w' := by
  obtain ⟨Acode, ccode, rfl, hlcode, hmcode⟩ := hcode.form
  go_enter Try.func7, Try.ntmps7
  go_upto_region 1 with fail
  have he0 : Ext w ((w.alloc (Obj.cells #[.int .i64 0, .int .i64 0, .slice none 0 0, .int .i64 0, .int .i64 0, .int .i64 0, .int .i64 0] 25)).alloc (Obj.cells #[.int .i64 0, .int .i64 0, .slice none 0 0, .int .i64 0, .int .i64 0, .int .i64 0, .int .i64 0] 25)) := (Ext.auto)
  have hs0 : w.heap.size + 2 ≤ (((w.alloc (Obj.cells #[.int .i64 0, .int .i64 0, .slice none 0 0, .int .i64 0, .int .i64 0, .int .i64 0, .int .i64 0] 25)).alloc (Obj.cells #[.int .i64 0, .int .i64 0, .slice none 0 0, .int .i64 0, .int .i64 0, .int .i64 0, .int .i64 0] 25))).heap.size := by simp
  have hq0 := hide (show (((w.alloc (Obj.cells #[.int .i64 0, .int .i64 0, .slice none 0 0, .int .i64 0, .int .i64 0, .int .i64 0, .int .i64 0] 25)).alloc (Obj.cells #[.int .i64 0, .int .i64 0, .slice none 0 0, .int .i64 0, .int .i64 0, .int .i64 0, .int .i64 0] 25))).heap.size = w.heap.size + 2 by simp)
  have hBres1_0 : Bx ((w.alloc (Obj.cells #[.int .i64 0, .int .i64 0, .slice none 0 0, .int .i64 0, .int .i64 0, .int .i64 0, .int .i64 0] 25)).alloc (Obj.cells #[.int .i64 0, .int .i64 0, .slice none 0 0, .int .i64 0, .int .i64 0, .int .i64 0, .int .i64 0] 25)) (w.heap.size) [.int .i64 0, .int .i64 0, .slice none 0 0, .int .i64 0, .int .i64 0, .int .i64 0, .int .i64 0] := (by have := (Bx.alloc (Bx.new w #[.int .i64 0, .int .i64 0, .slice none 0 0, .int .i64 0, .int .i64 0, .int .i64 0, .int .i64 0] 25) (by simp) #[.int .i64 0, .int .i64 0, .slice none 0 0, .int .i64 0, .int .i64 0, .int .i64 0, .int .i64 0] 25); simpa using this)
  have hFres1_0 : ∀ oo, (((w.alloc (Obj.cells #[.int .i64 0, .int .i64 0, .slice none 0 0, .int .i64 0, .int .i64 0, .int .i64 0, .int .i64 0] 25)).alloc (Obj.cells #[.int .i64 0, .int .i64 0, .slice none 0 0, .int .i64 0, .int .i64 0, .int .i64 0, .int .i64 0] 25))).frozen? ⟨w.heap.size, oo, none⟩ = false := fun oo => by simp
  have hBres2_0 : Bx ((w.alloc (Obj.cells #[.int .i64 0, .int .i64 0, .slice none 0 0, .int .i64 0, .int .i64 0, .int .i64 0, .int .i64 0] 25)).alloc (Obj.cells #[.int .i64 0, .int .i64 0, .slice none 0 0, .int .i64 0, .int .i64 0, .int .i64 0, .int .i64 0] 25)) (w.heap.size + 1) [.int .i64 0, .int .i64 0, .slice none 0 0, .int .i64 0, .int .i64 0, .int .i64 0, .int .i64 0] := (by have := (Bx.new (w.alloc (Obj.cells #[.int .i64 0, .int .i64 0, .slice none 0 0, .int .i64 0, .int .i64 0, .int .i64 0, .int .i64 0] 25)) #[.int .i64 0, .int .i64 0, .slice none 0 0, .int .i64 0, .int .i64 0, .int .i64 0, .int .i64 0] 25); simpa using this)
  have hFres2_0 : ∀ oo, (((w.alloc (Obj.cells #[.int .i64 0, .int .i64 0, .slice none 0 0, .int .i64 0, .int .i64 0, .int .i64 0, .int .i64 0] 25)).alloc (Obj.cells #[.int .i64 0, .int .i64 0, .slice none 0 0, .int .i64 0, .int .i64 0, .int .i64 0, .int .i64 0] 25))).frozen? ⟨w.heap.size + 1, oo, none⟩ = false := fun oo => by simp
  generalize ((w.alloc (Obj.cells #[.int .i64 0, .int .i64 0, .slice none 0 0, .int .i64 0, .int .i64 0, .int .i64 0, .int .i64 0] 25)).alloc (Obj.cells #[.int .i64 0, .int .i64 0, .slice none 0 0, .int .i64 0, .int .i64 0, .int .i64 0, .int .i64 0] 25)) = w0 at *
  go_wp2_with fail
  refine (l20Open_any code _ _ (hcode.ext he0)).mono ?_
  rintro e w1 ⟨rfl, hR1, hx1⟩
  have hs1 := hx1.size
  have hs1_ := hR1.lt
  go_wp2_with fail
  refine (l21Pair_any w0.heap.size (w0.heap.size + 1) 0 _ hR1 (by omega) 12 (by omega) (by omega)).mono ?_
  rintro e w2 ⟨⟨b, c, A1, A2, c1, c2, rfl, hQ1, hQ2, hok1, hok2, -, -⟩, -, hT⟩
  have hx2 : Ext w0 w2 := hT.ext hx1 (by simp)
  have hs2 := hT.size
  have hBres1_ := hx2.bx hBres1_0 (by omega)
  have yres1 : w.heap.size < w2.heap.size := by omega
  have fres1 : ∀ oo, w2.frozen? ⟨w.heap.size, oo, none⟩ = false := fun oo => (hx2.frozen (by omega)).trans (hFres1_0 oo)
  have xres10 := hBres1_ 0 _ rfl
  have xres11 := hBres1_ 1 _ rfl
  have xres12 := hBres1_ 2 _ rfl
  have xres13 := hBres1_ 3 _ rfl
  have xres14 := hBres1_ 4 _ rfl
  have xres15 := hBres1_ 5 _ rfl
  have xres16 := hBres1_ 6 _ rfl
  have hBres2_ := hx2.bx hBres2_0 (by omega)
  have yres2 : w.heap.size + 1 < w2.heap.size := by omega
  have fres2 : ∀ oo, w2.frozen? ⟨w.heap.size + 1, oo, none⟩ = false := fun oo => (hx2.frozen (by omega)).trans (hFres2_0 oo)
  have xres20 := hBres2_ 0 _ rfl
  have xres21 := hBres2_ 1 _ rfl
  have xres22 := hBres2_ 2 _ rfl
  have xres23 := hBres2_ 3 _ rfl
  have xres24 := hBres2_ 4 _ rfl
  have xres25 := hBres2_ 5 _ rfl
  have xres26 := hBres2_ 6 _ rfl
  go_wp2
  refine bodyPost_ret (v := .tuple #[.agg #[.int .i64 b.pc, .int .i64 b.len, .slice A1 b.ops.length c1, .int .i64 b.fin, .int .i64 b.x, .int .i64 b.y, .int .i64 b.k], .agg #[.int .i64 c.pc, .int .i64 c.len, .slice A2 c.ops.length c2, .int .i64 c.fin, .int .i64 c.x, .int .i64 c.y, .int .i64 c.k]]) (by simp [results, Try.results7, go_sem, xres10, xres11, xres12, xres13, xres14, xres15, xres16, xres20, xres21, xres22, xres23, xres24, xres25, xres26]) rfl ⟨⟨b, c, A1, A2, c1, c2, rfl, ?_, ?_, hok1, hok2⟩, Ext.hold (he0.trans hx2)⟩
  · exact GlO.sl (lo := w1.heap.size) (GlO.turn (F := [w.heap.size, w.heap.size + 1]) hQ1 (by repeat' (first | with_reducible exact Turn.refl _ _ | with_reducible refine Turn.set ?_ (.inl (by simp)) _ | with_reducible refine Turn.drew ?_)) (fun x hx => by simp at hx; omega))
  · exact GlO.sl (lo := w1.heap.size) (GlO.turn (F := [w.heap.size, w.heap.size + 1]) hQ2 (by repeat' (first | with_reducible exact Turn.refl _ _ | with_reducible refine Turn.set ?_ (.inl (by simp)) _ | with_reducible refine Turn.drew ?_)) (fun x hx => by simp at hx; omega))

end Go.Proofs.Yteaacelfnkiboaa
